/- Lemmas of one proof. -/
import Derived.Test.YthfkmcbblnbfaaaGreatDoorM0S

namespace Go.Proofs.YthfkmcbblnbfaaaGreatDoor
set_option maxRecDepth 100000
set_option maxHeartbeats 16000000
section
structure bd where
 c:Int
 a:Int
instance:Inhabited bd:=⟨⟨0,0⟩⟩
instance:DecidableEq bd:=fun x y=>decidable_of_iff (x.c=y.c/\x.a=y.a) ⟨fun⟨h1,h2⟩=>by cases x;cases y;simp_all,fun h=>by simp[h]⟩
def gO (c:Int):Bool:=decide (c=1) || (decide (c=8) || (decide (c=9) || (decide (c=10) || (decide (c=11) || decide (c=12)))))
def jr (c:Int):Bool:=decide (1<=c) && decide (c<=21)
def bA (n:Int):Bool:=decide (-2147483648<=n) && decide (n<=2147483647)
def eY (o:bd):Int:=if !jr o.c then 6 else if !gO o.c && o.a != 0 then 1 else if !bA o.a then 3 else 0
def iy (n:Int):Int:=(n+2147483648) % 4294967296 - 2147483648
def dr (n:Int):List UInt8:=
 [UInt8.ofNat (n % 4294967296 / 16777216).toNat,UInt8.ofNat (n % 4294967296 / 65536 % 256).toNat,UInt8.ofNat (n % 4294967296 / 256 % 256).toNat,UInt8.ofNat (n % 256).toNat]
def ku (l:List UInt8):Int:=l.foldl (fun u c=>(u*256+c.toNat) % 4294967296) 0
def cR (l:List UInt8):Int:=iy (ku l)
def ez:List bd->Int
 | []=>0
 | o::l=>if eY o != 0 then eY o else ez l
def dF (l:List bd):Int:=if l.length > 40 then 2 else ez l
def jq (o:bd):List UInt8:=UInt8.ofNat (o.c % 256).toNat::(if gO o.c then dr o.a else [])
def bt (l:List bd):List UInt8:=l.flatMap jq
def lU (l:List bd):List UInt8×Int:=if dF l != 0 then ([],dF l) else (bt l,0)
def eU (l:List UInt8) (n:Int):List UInt8×List UInt8×Bool:=if (l.length:Int)<n then ([],[],false) else (l.take n.toNat,l.drop n.toNat,true)
def bh (b:UInt8) (l:List UInt8):bd×List UInt8×Bool:=
 if !jr b.toNat then (⟨b.toNat,0⟩,l,false) else if !gO b.toNat then (⟨b.toNat,0⟩,l,true) else
 (⟨b.toNat,if (eU l 4).2.2 then cR (eU l 4).1 else 0⟩,(eU l 4).2.1,(eU l 4).2.2)
def bO:Nat->List UInt8->List bd->List bd×Int
 | _,[],out=>(out,0)
 | 0,_::_,_=>([],1)
 | k+1,b::l,out=>
  if !(bh b l).2.2 then ([],1) else if out.length == 40 then ([],2) else bO k (bh b l).2.1 (out++ [(bh b l).1])
def be (l:List UInt8):List bd×Int:=bO l.length l []
end
section
theorem jn (n:Nat) (h:n<256):(UInt8.ofNat n).toNat=n:=by simp[UInt8.toNat_ofNat'];omega
theorem rO (a:Int) (h:bA a=true):cR (dr a)=a:=by
 simp[bA] at h
 have e0:=jn (a % 4294967296 / 16777216).toNat (by omega)
 have e1:=jn (a % 4294967296 / 65536 % 256).toNat (by omega)
 have e2:=jn (a % 4294967296 / 256 % 256).toNat (by omega)
 have e3:=jn (a % 256).toNat (by omega)
 simp only[cR,dr,ku,List.foldl_cons,List.foldl_nil,e0,e1,e2,e3,iy]
 omega
theorem yQ (b0 b1 b2 b3:UInt8):dr (cR [b0,b1,b2,b3])= [b0,b1,b2,b3]:=by
 have h0:=b0.toNat_lt
 have h1:=b1.toNat_lt
 have h2:=b2.toNat_lt
 have h3:=b3.toNat_lt
 have key:∀(b:UInt8) (n:Int),n=b.toNat->UInt8.ofNat n.toNat=b:=by
  intro b n h;subst h;simp
 have hn:cR [b0,b1,b2,b3] % 4294967296=((((b0.toNat:Int)*256+b1.toNat)*256+b2.toNat)*256+b3.toNat):=by
  simp only[cR,ku,List.foldl_cons,List.foldl_nil,iy];omega
 generalize cR [b0,b1,b2,b3]=n at *
 rw[dr,key b0 (n % 4294967296 / 16777216) (by omega),key b1 (n % 4294967296 / 65536 % 256) (by omega),key b2 (n % 4294967296 / 256 % 256) (by omega),key b3 (n % 256) (by omega)]
theorem qw (l:List UInt8):bA (cR l)=true:=by
 have h: -2147483648<=cR l/\cR l<=2147483647:=by unfold cR iy;omega
 simp[bA,h.1,h.2]
theorem yR (o:bd) (h:jr o.c=true/\(gO o.c=true\/o.a=0)/\bA o.a=true) (r:List UInt8) :
  ∃b t,jq o=b::t/\bh b (t++r)=(o,r,true):=by
 obtain⟨hc,hn,hi⟩:=h
 have hcc:=hc
 simp[jr] at hcc
 have hb:((UInt8.ofNat (o.c % 256).toNat).toNat:Int)=o.c:=by rw[jn _ (by omega)];omega
 refine⟨_,_,rfl,?_⟩
 obtain⟨c,a⟩:=o
 simp only at hc hn hi hb⊢
 unfold bh
 rw[hb,hc]
 cases hnn:gO c with
 | false=>
  have:a=0:=by
   rcases hn with h | h;· rw[h] at hnn;cases hnn
   ·exact h
  subst this
  simp
 | true=>
  have h4:¬((dr a++r).length:Int)<4:=by simp[dr];omega
  have ht:(dr a++r).take 4=dr a:=by simp[dr]
  have hd:(dr a++r).drop 4=r:=by simp[dr]
  have hcut:eU (dr a++r) 4=(dr a,r,true):=by
   unfold eU;rw[if_neg h4]
   show ((dr a++r).take 4,(dr a++r).drop 4,true)=_
   rw[ht,hd]
  simp[hcut,rO a hi]
theorem yZ (b:UInt8) (l:List UInt8) (h:(bh b l).2.2=true):eY (bh b l).1=0/\b::l=jq (bh b l).1++(bh b l).2.1:=by
 have hb8:=b.toNat_lt
 have hbb:UInt8.ofNat ((b.toNat:Int) % 256).toNat=b:=by
  rw[show ((b.toNat:Int) % 256).toNat=b.toNat from by omega];simp
 unfold bh at h⊢
 cases hc:jr b.toNat with
 | false=>rw[hc] at h;simp at h
 | true=>
  rw[hc] at h
  cases hn:gO b.toNat with
  | false=>
   simp only[Bool.not_true,Bool.not_false,if_true]
   refine⟨?_,?_⟩
   ·simp[eY,hc,hn,bA]
   simp[jq,hn,hbb]
  | true=>
   rw[hn] at h
   simp only[Bool.not_true] at h⊢
   by_cases h4:(l.length:Int)<4
   ·have hcut:eU l 4=([],[],false):=by unfold eU;rw[if_pos h4]
    rw[hcut] at h;simp at h
   have hcut:eU l 4=(l.take 4,l.drop 4,true):=by unfold eU;rw[if_neg h4];rfl
   rw[hcut]
   have hl4:∃b0 b1 b2 b3 r,l=b0::b1::b2::b3::r:=by
    match l,h4 with
    | b0::b1::b2::b3::r,_=>exact⟨_,_,_,_,_,rfl⟩
    | [],h=>simp at h
    | [_],h=>simp at h
    | [_,_],h=>simp at h
    | [_,_,_],h=>simp at h
   obtain⟨b0,b1,b2,b3,r,rfl⟩:=hl4
   refine⟨?_,?_⟩
   ·simp[eY,hc,hn,qw]
   simp[jq,hn,hbb,yQ]
theorem yV (k:Nat):∀(r:List UInt8) (out res:List bd),bO k r out=(res,0)->out.length<=40->∃new,res=out++new/\bt new=r/\(∀o∈new,eY o=0)/\res.length<=40:=by
 induction k with
 | zero=>
  intro r out res h h40
  cases r with
  | nil=>simp[bO] at h;subst h;exact⟨[],by simp,by simp[bt],by simp,h40⟩
  | cons b r=>simp[bO] at h
 | succ k ih=>
  intro r out res h h40
  cases r with
  | nil=>simp[bO] at h;subst h;exact⟨[],by simp,by simp[bt],by simp,h40⟩
  | cons b r=>
   simp only[bO] at h
   split at h
   ·simp at h
   rename_i hok
   split at h
   ·simp at h
   rename_i h41
   obtain⟨h1,h2⟩:=yZ b r (by simpa using hok)
   obtain⟨new,e1,e2,e3,e4⟩:=ih _ _ _ h (by simp at h41⊢;omega)
   refine⟨(bh b r).1::new,by rw[e1];simp,?_,?_,e4⟩
   ·rw[h2,<-e2];simp[bt]
   intro o ho
   rcases cZ.1 ho with rfl | ho
   ·exact h1
   exact e3 o ho
theorem B0 {l:List bd} (h:∀o∈l,eY o=0):ez l=0:=by
 induction l with
 | nil=>rfl
 | cons a l ih=>simp[ez,h a (by simp)];exact ih (fun o ho=>h o (by simp[ho]))
theorem yU (s:List UInt8) (h:(be s).2=0):lU (be s).1=(s,0):=by
 obtain⟨new,e1,e2,e3,e4⟩:=yV s.length s [] (be s).1 (by rw[<-h];rfl) (by simp)
 simp at e1
 subst e1
 have hc:dF (be s).1=0:=by unfold dF;rw[if_neg (by omega),B0 e3]
 simp[lU,hc,e2]
theorem nC:∀(l out:List bd) (k:Nat),(∀o∈l,jr o.c=true/\(gO o.c=true\/o.a=0)/\bA o.a=true)->out.length+l.length<=40->(bt l).length<=k->bO k (bt l) out=(out++l,0)
 | [],out,k,_,_,_=>by cases k <;> simp[bt,bO]
 | o::l,out,k,h,h40,hk=>by
  obtain⟨b,t,e1,e2⟩:=yR o (h o (by simp)) (bt l)
  have e3:bt (o::l)=b::(t++bt l):=by simp[bt,e1]
  rw[e3] at hk⊢
  cases k with
  | zero=>simp at hk
  | succ k=>
   have h41:(out.length == 40)=false:=by simp at h40⊢;omega
   simp only[bO,e2,h41]
   have:=nC l (out++ [o]) k (fun o ho=>h o (by simp[ho])) (by simp at h40⊢;omega) (by simp at hk;omega)
   simpa using this
end
section
def cn (l:List (List Int)):Nat:=(l.map List.length).sum
def dL (b:List Int):Bool:=b.any fun n=>!bA n
def bV (l:List (List Int)):Int:=if 8<l.length\/40<cn l then 2 else if l.any dL then 3 else 0
def mt (l:List (List Int)) (size:Int):Int:=if size<0 then 3 else if l.length=8\/40 - (cn l:Int)<size then 7 else 0
def jU (l:List (List Int)) (size:Int):Int:=if bV l=0 then mt l size else bV l
def uX (l:List (List Int)) (size:Int):List (List Int):=if jU l size=0 then l++ [List.replicate size.toNat 0] else []
def EK (l:List (List Int)) (size:Int):Int:=if jU l size=0 then l.length+1 else 0
def blk (l:List (List Int)) (ref:Int):List Int:=l.getD (ref - 1).toNat []
def ql (l:List (List Int)) (ref at_:Int):Int:=if ref=0 then 5 else if ref<0\/(l.length:Int)<ref\/at_<0\/((blk l ref).length:Int)<=at_ then 3 else 0
def QM (l:List (List Int)) (ref at_:Int):Int:=if bV l=0 then ql l ref at_ else bV l
def Rw (l:List (List Int)) (ref at_:Int):Int:=if QM l ref at_=0 then (blk l ref).getD at_.toNat 0 else 0
def JF (l:List (List Int)) (ref at_ n:Int):Int:=if ql l ref at_=0 then (if bA n then 0 else 3) else ql l ref at_
def wV (l:List (List Int)) (ref at_ n:Int):Int:=if bV l=0 then JF l ref at_ n else bV l
def put (l:List (List Int)) (ref at_ n:Int):List (List Int):=l.set (ref - 1).toNat ((blk l ref).set at_.toNat n)
def Es (l:List (List Int)) (ref at_ n:Int):List (List Int):=if wV l ref at_ n=0 then put l ref at_ n else []
def bT (l:List (List Int)) (refs:List Int):Nat->List (List Int)
 | 0=> []
 | k+1=>bT l refs k++(if refs.contains ((k:Int)+1) then [l.getD k []] else [])
def ee (l:List (List Int)) (refs:List Int) (r:Int):Int:=if r=0 then 0 else (bT l refs r.toNat).length
def EQ (l:List (List Int)) (refs:List Int):Int:=if bV l=0 then (if refs.any (fun r=>decide (r<0) || decide ((l.length:Int)<r)) then 3 else 0) else bV l
def Rf (l:List (List Int)) (refs:List Int):List (List Int):=if EQ l refs=0 then bT l refs l.length else []
def Re (l:List (List Int)) (refs:List Int):List Int:=if EQ l refs=0 then refs.map (ee l refs) else []
theorem lh (l:List (List Int)) (b:List Int):cn (l++ [b])=cn l+b.length:=by simp[cn]
theorem ed {α:Type} (l:List α) (k:Nat) (d:α) (h:k<l.length):l.take (k+1)=l.take k++ [l.getD k d]:=by
 rw[List.take_add_one,an h,ak,an h];rfl
theorem uq (l:List (List Int)) (k:Nat) (h:k<l.length):cn (l.take (k+1))=cn (l.take k)+(l.getD k []).length:=by rw[ed l k [] h,lh]
theorem Fo {l:List (List Int)} {b:List Int} (h:b∈l):b.length<=cn l:=by
 induction l with
 | nil=>cases h
 | cons c l ih=>
  simp only[cn,dW,List.sum_cons] at *
  rcases cZ.1 h with rfl | h
  ·omega
  have:=ih h;omega
theorem iS {l:List (List Int)} (h:bV l=0):l.length<=8/\cn l<=40:=by
 unfold bV at h
 split at h
 ·cases h
 omega
end
