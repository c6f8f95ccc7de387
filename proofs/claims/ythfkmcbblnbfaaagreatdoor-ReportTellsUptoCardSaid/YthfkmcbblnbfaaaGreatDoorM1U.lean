/- Texts of one proof, one behind the other: lemmas alone. -/
import Derived.Test.YthfkmcbblnbfaaaGreatDoorM0U

namespace Go.Proofs.YthfkmcbblnbfaaaGreatDoor
set_option maxRecDepth 100000
set_option maxHeartbeats 16000000
section
structure aW where
 c:Int
 a:Int
instance:Inhabited aW:=⟨⟨0,0⟩⟩
instance:DecidableEq aW:=fun x y=>decidable_of_iff (x.c=y.c/\x.a=y.a) ⟨fun⟨h1,h2⟩=>by cases x;cases y;simp_all,fun h=>by simp[h]⟩
def fj (c:Int):Bool:=decide (c=1) || (decide (c=8) || (decide (c=9) || (decide (c=10) || (decide (c=11) || decide (c=12)))))
def fX (c:Int):Bool:=decide (1<=c) && decide (c<=21)
def bg (n:Int):Bool:=decide (-2147483648<=n) && decide (n<=2147483647)
def dP (o:aW):Int:=if !fX o.c then 6 else if !fj o.c && o.a != 0 then 1 else if !bg o.a then 3 else 0
def gt (n:Int):Int:=(n+2147483648) % 4294967296 - 2147483648
def eC (n:Int):List UInt8:=
 [UInt8.ofNat (n % 4294967296 / 16777216).toNat,UInt8.ofNat (n % 4294967296 / 65536 % 256).toNat,UInt8.ofNat (n % 4294967296 / 256 % 256).toNat,UInt8.ofNat (n % 256).toNat]
def iA (l:List UInt8):Int:=l.foldl (fun u c=>(u*256+c.toNat) % 4294967296) 0
def de (l:List UInt8):Int:=gt (iA l)
def dp:List aW->Int
 | []=>0
 | o::l=>if dP o != 0 then dP o else dp l
def df (l:List aW):Int:=if l.length > 40 then 2 else dp l
def kg (o:aW):List UInt8:=UInt8.ofNat (o.c % 256).toNat::(if fj o.c then eC o.a else [])
def cA (l:List aW):List UInt8:=l.flatMap kg
def nJ (l:List aW):List UInt8×Int:=if df l != 0 then ([],df l) else (cA l,0)
def dX (l:List UInt8) (n:Int):List UInt8×List UInt8×Bool:=if (l.length:Int)<n then ([],[],false) else (l.take n.toNat,l.drop n.toNat,true)
def aF (b:UInt8) (l:List UInt8):aW×List UInt8×Bool:=
 if !fX b.toNat then (⟨b.toNat,0⟩,l,false) else if !fj b.toNat then (⟨b.toNat,0⟩,l,true) else
 (⟨b.toNat,if (dX l 4).2.2 then de (dX l 4).1 else 0⟩,(dX l 4).2.1,(dX l 4).2.2)
def bn:Nat->List UInt8->List aW->List aW×Int
 | _,[],out=>(out,0)
 | 0,_::_,_=>([],1)
 | k+1,b::l,out=>
  if !(aF b l).2.2 then ([],1) else if out.length == 40 then ([],2) else bn k (aF b l).2.1 (out++ [(aF b l).1])
def aE (l:List UInt8):List aW×Int:=bn l.length l []
end
section
theorem gA (n:Nat) (h:n<256):(UInt8.ofNat n).toNat=n:=by simp[UInt8.toNat_ofNat'];omega
theorem rQ (a:Int) (h:bg a=true):de (eC a)=a:=by
 simp[bg] at h
 have e0:=gA (a % 4294967296 / 16777216).toNat (by omega)
 have e1:=gA (a % 4294967296 / 65536 % 256).toNat (by omega)
 have e2:=gA (a % 4294967296 / 256 % 256).toNat (by omega)
 have e3:=gA (a % 256).toNat (by omega)
 simp only[de,eC,iA,List.foldl_cons,List.foldl_nil,e0,e1,e2,e3,gt]
 omega
theorem rT (b0 b1 b2 b3:UInt8):eC (de [b0,b1,b2,b3])= [b0,b1,b2,b3]:=by
 have h0:=b0.toNat_lt
 have h1:=b1.toNat_lt
 have h2:=b2.toNat_lt
 have h3:=b3.toNat_lt
 have key:∀(b:UInt8) (n:Int),n=b.toNat->UInt8.ofNat n.toNat=b:=by
  intro b n h;subst h;simp
 have hn:de [b0,b1,b2,b3] % 4294967296=((((b0.toNat:Int)*256+b1.toNat)*256+b2.toNat)*256+b3.toNat):=by
  simp only[de,iA,List.foldl_cons,List.foldl_nil,gt];omega
 generalize de [b0,b1,b2,b3]=n at *
 rw[eC,key b0 (n % 4294967296 / 16777216) (by omega),key b1 (n % 4294967296 / 65536 % 256) (by omega),key b2 (n % 4294967296 / 256 % 256) (by omega),key b3 (n % 256) (by omega)]
theorem qI (l:List UInt8):bg (de l)=true:=by
 have h: -2147483648<=de l/\de l<=2147483647:=by unfold de gt;omega
 simp[bg,h.1,h.2]
theorem rU (o:aW) (h:fX o.c=true/\(fj o.c=true\/o.a=0)/\bg o.a=true) (r:List UInt8) :
  ∃b t,kg o=b::t/\aF b (t++r)=(o,r,true):=by
 obtain⟨hc,hn,hi⟩:=h
 have hcc:=hc
 simp[fX] at hcc
 have hb:((UInt8.ofNat (o.c % 256).toNat).toNat:Int)=o.c:=by rw[gA _ (by omega)];omega
 refine⟨_,_,rfl,?_⟩
 obtain⟨c,a⟩:=o
 simp only at hc hn hi hb⊢
 unfold aF
 rw[hb,hc]
 cases hnn:fj c with
 | false=>
  have:a=0:=by
   rcases hn with h | h;· rw[h] at hnn;cases hnn
   ·exact h
  subst this
  simp
 | true=>
  have h4:¬((eC a++r).length:Int)<4:=by simp[eC];omega
  have ht:(eC a++r).take 4=eC a:=by simp[eC]
  have hd:(eC a++r).drop 4=r:=by simp[eC]
  have hcut:dX (eC a++r) 4=(eC a,r,true):=by
   unfold dX;rw[if_neg h4]
   show ((eC a++r).take 4,(eC a++r).drop 4,true)=_
   rw[ht,hd]
  simp[hcut,rQ a hi]
theorem rZ (b:UInt8) (l:List UInt8) (h:(aF b l).2.2=true):dP (aF b l).1=0/\b::l=kg (aF b l).1++(aF b l).2.1:=by
 have hb8:=b.toNat_lt
 have hbb:UInt8.ofNat ((b.toNat:Int) % 256).toNat=b:=by
  rw[show ((b.toNat:Int) % 256).toNat=b.toNat from by omega];simp
 unfold aF at h⊢
 cases hc:fX b.toNat with
 | false=>rw[hc] at h;simp at h
 | true=>
  rw[hc] at h
  cases hn:fj b.toNat with
  | false=>
   simp only[Bool.not_true,Bool.not_false,if_true]
   refine⟨?_,?_⟩
   ·simp[dP,hc,hn,bg]
   simp[kg,hn,hbb]
  | true=>
   rw[hn] at h
   simp only[Bool.not_true] at h⊢
   by_cases h4:(l.length:Int)<4
   ·have hcut:dX l 4=([],[],false):=by unfold dX;rw[if_pos h4]
    rw[hcut] at h;simp at h
   have hcut:dX l 4=(l.take 4,l.drop 4,true):=by unfold dX;rw[if_neg h4];rfl
   rw[hcut]
   have hl4:∃b0 b1 b2 b3 r,l=b0::b1::b2::b3::r:=by
    match l,h4 with
    | b0::b1::b2::b3::r,_=>exact⟨_,_,_,_,_,rfl⟩
    | [],h=>simp at h
    | [_],h=>simp at h
    | [_,_],h=>simp at h
    | [_,_,_],h=>simp at h
   obtain⟨b0,b1,b2,b3,r,rfl⟩:=hl4
   refine⟨?_,?_⟩
   ·simp[dP,hc,hn,qI]
   simp[kg,hn,hbb,rT]
theorem rW (k:Nat):∀(r:List UInt8) (out res:List aW),bn k r out=(res,0)->out.length<=40->∃new,res=out++new/\cA new=r/\(∀o∈new,dP o=0)/\res.length<=40:=by
 induction k with
 | zero=>
  intro r out res h h40
  cases r with
  | nil=>simp[bn] at h;subst h;exact⟨[],by simp,by simp[cA],by simp,h40⟩
  | cons b r=>simp[bn] at h
 | succ k ih=>
  intro r out res h h40
  cases r with
  | nil=>simp[bn] at h;subst h;exact⟨[],by simp,by simp[cA],by simp,h40⟩
  | cons b r=>
   simp only[bn] at h
   split at h
   ·simp at h
   rename_i hok
   split at h
   ·simp at h
   rename_i h41
   obtain⟨h1,h2⟩:=rZ b r (by simpa using hok)
   obtain⟨new,e1,e2,e3,e4⟩:=ih _ _ _ h (by simp at h41⊢;omega)
   refine⟨(aF b r).1::new,by rw[e1];simp,?_,?_,e4⟩
   ·rw[h2,<-e2];simp[cA]
   intro o ho
   rcases cc.1 ho with rfl | ho
   ·exact h1
   exact e3 o ho
theorem ui {l:List aW} (h:∀o∈l,dP o=0):dp l=0:=by
 induction l with
 | nil=>rfl
 | cons a l ih=>simp[dp,h a (by simp)];exact ih (fun o ho=>h o (by simp[ho]))
theorem rV (s:List UInt8) (h:(aE s).2=0):nJ (aE s).1=(s,0):=by
 obtain⟨new,e1,e2,e3,e4⟩:=rW s.length s [] (aE s).1 (by rw[<-h];rfl) (by simp)
 simp at e1
 subst e1
 have hc:df (aE s).1=0:=by unfold df;rw[if_neg (by omega),ui e3]
 simp[nJ,hc,e2]
theorem kJ:∀(l out:List aW) (k:Nat),(∀o∈l,fX o.c=true/\(fj o.c=true\/o.a=0)/\bg o.a=true)->out.length+l.length<=40->(cA l).length<=k->bn k (cA l) out=(out++l,0)
 | [],out,k,_,_,_=>by cases k <;> simp[cA,bn]
 | o::l,out,k,h,h40,hk=>by
  obtain⟨b,t,e1,e2⟩:=rU o (h o (by simp)) (cA l)
  have e3:cA (o::l)=b::(t++cA l):=by simp[cA,e1]
  rw[e3] at hk⊢
  cases k with
  | zero=>simp at hk
  | succ k=>
   have h41:(out.length == 40)=false:=by simp at h40⊢;omega
   simp only[bn,e2,h41]
   have:=kJ l (out++ [o]) k (fun o ho=>h o (by simp[ho])) (by simp at h40⊢;omega) (by simp at hk;omega)
   simpa using this
end
section
def cC (l:List (List Int)):Nat:=(l.map List.length).sum
def cF (b:List Int):Bool:=b.any fun n=>!bg n
def dc (l:List (List Int)):Int:=if 8<l.length\/40<cC l then 2 else if l.any cF then 3 else 0
def BK (l:List (List Int)) (size:Int):Int:=if size<0 then 3 else if l.length=8\/40 - (cC l:Int)<size then 7 else 0
def EX (l:List (List Int)) (size:Int):Int:=if dc l=0 then BK l size else dc l
def HB (l:List (List Int)) (size:Int):List (List Int):=if EX l size=0 then l++ [List.replicate size.toNat 0] else []
def HA (l:List (List Int)) (size:Int):Int:=if EX l size=0 then l.length+1 else 0
def jf (l:List (List Int)) (ref:Int):List Int:=l.getD (ref - 1).toNat []
def ti (l:List (List Int)) (ref at_:Int):Int:=if ref=0 then 5 else if ref<0\/(l.length:Int)<ref\/at_<0\/((jf l ref).length:Int)<=at_ then 3 else 0
def GN (l:List (List Int)) (ref at_:Int):Int:=if dc l=0 then ti l ref at_ else dc l
def HD (l:List (List Int)) (ref at_:Int):Int:=if GN l ref at_=0 then (jf l ref).getD at_.toNat 0 else 0
def GD (l:List (List Int)) (ref at_ n:Int):Int:=if ti l ref at_=0 then (if bg n then 0 else 3) else ti l ref at_
def GA (l:List (List Int)) (ref at_ n:Int):Int:=if dc l=0 then GD l ref at_ n else dc l
def put (l:List (List Int)) (ref at_ n:Int):List (List Int):=l.set (ref - 1).toNat ((jf l ref).set at_.toNat n)
def Hz (l:List (List Int)) (ref at_ n:Int):List (List Int):=if GA l ref at_ n=0 then put l ref at_ n else []
def cP (l:List (List Int)) (refs:List Int):Nat->List (List Int)
 | 0=> []
 | k+1=>cP l refs k++(if refs.contains ((k:Int)+1) then [l.getD k []] else [])
def dY (l:List (List Int)) (refs:List Int) (r:Int):Int:=if r=0 then 0 else (cP l refs r.toNat).length
def BN (l:List (List Int)) (refs:List Int):Int:=if dc l=0 then (if refs.any (fun r=>decide (r<0) || decide ((l.length:Int)<r)) then 3 else 0) else dc l
def He (l:List (List Int)) (refs:List Int):List (List Int):=if BN l refs=0 then cP l refs l.length else []
def Hb (l:List (List Int)) (refs:List Int):List Int:=if BN l refs=0 then refs.map (dY l refs) else []
theorem ma (l:List (List Int)) (b:List Int):cC (l++ [b])=cC l+b.length:=by simp[cC]
theorem eI {α:Type} (l:List α) (k:Nat) (d:α) (h:k<l.length):l.take (k+1)=l.take k++ [l.getD k d]:=by
 rw[List.take_add_one,ae h,ac,ae h];rfl
theorem u4 (l:List (List Int)) (k:Nat) (h:k<l.length):cC (l.take (k+1))=cC (l.take k)+(l.getD k []).length:=by rw[eI l k [] h,ma]
theorem xh {l:List (List Int)} {b:List Int} (h:b∈l):b.length<=cC l:=by
 induction l with
 | nil=>cases h
 | cons c l ih=>
  simp only[cC,cR,List.sum_cons] at *
  rcases cc.1 h with rfl | h
  ·omega
  have:=ih h;omega
theorem lV {l:List (List Int)} (h:dc l=0):l.length<=8/\cC l<=40:=by
 unfold dc at h
 split at h
 ·cases h
 omega
end
end Go.Proofs.YthfkmcbblnbfaaaGreatDoor
