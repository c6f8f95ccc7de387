/- Texts of one proof, one behind the other: lemmas alone. -/
import Derived.Test.YthfkmcbblnbfaaaGreatDoorM0B

namespace Go.Proofs.YthfkmcbblnbfaaaGreatDoor
set_option maxRecDepth 100000
set_option maxHeartbeats 16000000
section
structure aM where
 c:Int
 a:Int
instance:Inhabited aM:=⟨⟨0,0⟩⟩
instance:DecidableEq aM:=fun x y=>decidable_of_iff (x.c=y.c/\x.a=y.a) ⟨fun⟨h1,h2⟩=>by cases x;cases y;simp_all,fun h=>by simp[h]⟩
def eS (c:Int):Bool:=decide (c=1) || (decide (c=8) || (decide (c=9) || (decide (c=10) || (decide (c=11) || decide (c=12)))))
def fY (c:Int):Bool:=decide (1<=c) && decide (c<=21)
def b9 (n:Int):Bool:=decide (-2147483648<=n) && decide (n<=2147483647)
def dW (o:aM):Int:=if !fY o.c then 6 else if !eS o.c && o.a != 0 then 1 else if !b9 o.a then 3 else 0
def fP (n:Int):Int:=(n+2147483648) % 4294967296 - 2147483648
def dI (n:Int):List UInt8:=
 [UInt8.ofNat (n % 4294967296 / 16777216).toNat,UInt8.ofNat (n % 4294967296 / 65536 % 256).toNat,UInt8.ofNat (n % 4294967296 / 256 % 256).toNat,UInt8.ofNat (n % 256).toNat]
def gV (l:List UInt8):Int:=l.foldl (fun u c=>(u*256+c.toNat) % 4294967296) 0
def cN (l:List UInt8):Int:=fP (gV l)
def dk:List aM->Int
 | []=>0
 | o::l=>if dW o != 0 then dW o else dk l
def cQ (l:List aM):Int:=if l.length > 40 then 2 else dk l
def fW (o:aM):List UInt8:=UInt8.ofNat (o.c % 256).toNat::(if eS o.c then dI o.a else [])
def aO (l:List aM):List UInt8:=l.flatMap fW
def na (l:List aM):List UInt8×Int:=if cQ l != 0 then ([],cQ l) else (aO l,0)
def dQ (l:List UInt8) (n:Int):List UInt8×List UInt8×Bool:=if (l.length:Int)<n then ([],[],false) else (l.take n.toNat,l.drop n.toNat,true)
def aH (b:UInt8) (l:List UInt8):aM×List UInt8×Bool:=
 if !fY b.toNat then (⟨b.toNat,0⟩,l,false) else if !eS b.toNat then (⟨b.toNat,0⟩,l,true) else
 (⟨b.toNat,if (dQ l 4).2.2 then cN (dQ l 4).1 else 0⟩,(dQ l 4).2.1,(dQ l 4).2.2)
def a7:Nat->List UInt8->List aM->List aM×Int
 | _,[],out=>(out,0)
 | 0,_::_,_=>([],1)
 | k+1,b::l,out=>
  if !(aH b l).2.2 then ([],1) else if out.length == 40 then ([],2) else a7 k (aH b l).2.1 (out++ [(aH b l).1])
def aF (l:List UInt8):List aM×Int:=a7 l.length l []
end
section
theorem fT (n:Nat) (h:n<256):(UInt8.ofNat n).toNat=n:=by simp[UInt8.toNat_ofNat'];omega
theorem rD (a:Int) (h:b9 a=true):cN (dI a)=a:=by
 simp[b9] at h
 have e0:=fT (a % 4294967296 / 16777216).toNat (by omega)
 have e1:=fT (a % 4294967296 / 65536 % 256).toNat (by omega)
 have e2:=fT (a % 4294967296 / 256 % 256).toNat (by omega)
 have e3:=fT (a % 256).toNat (by omega)
 simp only[cN,dI,gV,List.foldl_cons,List.foldl_nil,e0,e1,e2,e3,fP]
 omega
theorem rF (b0 b1 b2 b3:UInt8):dI (cN [b0,b1,b2,b3])= [b0,b1,b2,b3]:=by
 have h0:=b0.toNat_lt
 have h1:=b1.toNat_lt
 have h2:=b2.toNat_lt
 have h3:=b3.toNat_lt
 have key:∀(b:UInt8) (n:Int),n=b.toNat->UInt8.ofNat n.toNat=b:=by
  intro b n h;subst h;simp
 have hn:cN [b0,b1,b2,b3] % 4294967296=((((b0.toNat:Int)*256+b1.toNat)*256+b2.toNat)*256+b3.toNat):=by
  simp only[cN,gV,List.foldl_cons,List.foldl_nil,fP];omega
 generalize cN [b0,b1,b2,b3]=n at *
 rw[dI,key b0 (n % 4294967296 / 16777216) (by omega),key b1 (n % 4294967296 / 65536 % 256) (by omega),key b2 (n % 4294967296 / 256 % 256) (by omega),key b3 (n % 256) (by omega)]
theorem qp (l:List UInt8):b9 (cN l)=true:=by
 have h: -2147483648<=cN l/\cN l<=2147483647:=by unfold cN fP;omega
 simp[b9,h.1,h.2]
theorem rG (o:aM) (h:fY o.c=true/\(eS o.c=true\/o.a=0)/\b9 o.a=true) (r:List UInt8) :
  ∃b t,fW o=b::t/\aH b (t++r)=(o,r,true):=by
 obtain⟨hc,hn,hi⟩:=h
 have hcc:=hc
 simp[fY] at hcc
 have hb:((UInt8.ofNat (o.c % 256).toNat).toNat:Int)=o.c:=by rw[fT _ (by omega)];omega
 refine⟨_,_,rfl,?_⟩
 obtain⟨c,a⟩:=o
 simp only at hc hn hi hb⊢
 unfold aH
 rw[hb,hc]
 cases hnn:eS c with
 | false=>
  have:a=0:=by
   rcases hn with h | h;· rw[h] at hnn;cases hnn
   ·exact h
  subst this
  simp
 | true=>
  have h4:¬((dI a++r).length:Int)<4:=by simp[dI];omega
  have ht:(dI a++r).take 4=dI a:=by simp[dI]
  have hd:(dI a++r).drop 4=r:=by simp[dI]
  have hcut:dQ (dI a++r) 4=(dI a,r,true):=by
   unfold dQ;rw[if_neg h4]
   show ((dI a++r).take 4,(dI a++r).drop 4,true)=_
   rw[ht,hd]
  simp[hcut,rD a hi]
theorem rM (b:UInt8) (l:List UInt8) (h:(aH b l).2.2=true):dW (aH b l).1=0/\b::l=fW (aH b l).1++(aH b l).2.1:=by
 have hb8:=b.toNat_lt
 have hbb:UInt8.ofNat ((b.toNat:Int) % 256).toNat=b:=by
  rw[show ((b.toNat:Int) % 256).toNat=b.toNat from by omega];simp
 unfold aH at h⊢
 cases hc:fY b.toNat with
 | false=>rw[hc] at h;simp at h
 | true=>
  rw[hc] at h
  cases hn:eS b.toNat with
  | false=>
   simp only[Bool.not_true,Bool.not_false,if_true]
   refine⟨?_,?_⟩
   ·simp[dW,hc,hn,b9]
   simp[fW,hn,hbb]
  | true=>
   rw[hn] at h
   simp only[Bool.not_true] at h⊢
   by_cases h4:(l.length:Int)<4
   ·have hcut:dQ l 4=([],[],false):=by unfold dQ;rw[if_pos h4]
    rw[hcut] at h;simp at h
   have hcut:dQ l 4=(l.take 4,l.drop 4,true):=by unfold dQ;rw[if_neg h4];rfl
   rw[hcut]
   have hl4:∃b0 b1 b2 b3 r,l=b0::b1::b2::b3::r:=by
    match l,h4 with
    | b0::b1::b2::b3::r,_=>exact⟨_,_,_,_,_,rfl⟩
    | [],h=>simp at h
    | [_],h=>simp at h
    | [_,_],h=>simp at h
    | [_,_,_],h=>simp at h
   obtain⟨b0,b1,b2,b3,r,rfl⟩:=hl4
   refine⟨?_,?_⟩
   ·simp[dW,hc,hn,qp]
   simp[fW,hn,hbb,rF]
theorem rI (k:Nat):∀(r:List UInt8) (out res:List aM),a7 k r out=(res,0)->out.length<=40->∃new,res=out++new/\aO new=r/\(∀o∈new,dW o=0)/\res.length<=40:=by
 induction k with
 | zero=>
  intro r out res h h40
  cases r with
  | nil=>simp[a7] at h;subst h;exact⟨[],by simp,by simp[aO],by simp,h40⟩
  | cons b r=>simp[a7] at h
 | succ k ih=>
  intro r out res h h40
  cases r with
  | nil=>simp[a7] at h;subst h;exact⟨[],by simp,by simp[aO],by simp,h40⟩
  | cons b r=>
   simp only[a7] at h
   split at h
   ·simp at h
   rename_i hok
   split at h
   ·simp at h
   rename_i h41
   obtain⟨h1,h2⟩:=rM b r (by simpa using hok)
   obtain⟨new,e1,e2,e3,e4⟩:=ih _ _ _ h (by simp at h41⊢;omega)
   refine⟨(aH b r).1::new,by rw[e1];simp,?_,?_,e4⟩
   ·rw[h2,<-e2];simp[aO]
   intro o ho
   rcases cu.1 ho with rfl | ho
   ·exact h1
   exact e3 o ho
theorem tP {l:List aM} (h:∀o∈l,dW o=0):dk l=0:=by
 induction l with
 | nil=>rfl
 | cons a l ih=>simp[dk,h a (by simp)];exact ih (fun o ho=>h o (by simp[ho]))
theorem rH (s:List UInt8) (h:(aF s).2=0):na (aF s).1=(s,0):=by
 obtain⟨new,e1,e2,e3,e4⟩:=rI s.length s [] (aF s).1 (by rw[<-h];rfl) (by simp)
 simp at e1
 subst e1
 have hc:cQ (aF s).1=0:=by unfold cQ;rw[if_neg (by omega),tP e3]
 simp[na,hc,e2]
theorem j4:∀(l out:List aM) (k:Nat),(∀o∈l,fY o.c=true/\(eS o.c=true\/o.a=0)/\b9 o.a=true)->out.length+l.length<=40->(aO l).length<=k->a7 k (aO l) out=(out++l,0)
 | [],out,k,_,_,_=>by cases k <;> simp[aO,a7]
 | o::l,out,k,h,h40,hk=>by
  obtain⟨b,t,e1,e2⟩:=rG o (h o (by simp)) (aO l)
  have e3:aO (o::l)=b::(t++aO l):=by simp[aO,e1]
  rw[e3] at hk⊢
  cases k with
  | zero=>simp at hk
  | succ k=>
   have h41:(out.length == 40)=false:=by simp at h40⊢;omega
   simp only[a7,e2,h41]
   have:=j4 l (out++ [o]) k (fun o ho=>h o (by simp[ho])) (by simp at h40⊢;omega) (by simp at hk;omega)
   simpa using this
end
section
def cz (l:List (List Int)):Nat:=(l.map List.length).sum
def dy (b:List Int):Bool:=b.any fun n=>!b9 n
def dd (l:List (List Int)):Int:=if 8<l.length\/40<cz l then 2 else if l.any dy then 3 else 0
def k9 (l:List (List Int)) (size:Int):Int:=if size<0 then 3 else if l.length=8\/40 - (cz l:Int)<size then 7 else 0
def jH (l:List (List Int)) (size:Int):Int:=if dd l=0 then k9 l size else dd l
def wj (l:List (List Int)) (size:Int):List (List Int):=if jH l size=0 then l++ [List.replicate size.toNat 0] else []
def wi (l:List (List Int)) (size:Int):Int:=if jH l size=0 then l.length+1 else 0
def blk (l:List (List Int)) (ref:Int):List Int:=l.getD (ref - 1).toNat []
def sR (l:List (List Int)) (ref at_:Int):Int:=if ref=0 then 5 else if ref<0\/(l.length:Int)<ref\/at_<0\/((blk l ref).length:Int)<=at_ then 3 else 0
def GQ (l:List (List Int)) (ref at_:Int):Int:=if dd l=0 then sR l ref at_ else dd l
def HF (l:List (List Int)) (ref at_:Int):Int:=if GQ l ref at_=0 then (blk l ref).getD at_.toNat 0 else 0
def GJ (l:List (List Int)) (ref at_ n:Int):Int:=if sR l ref at_=0 then (if b9 n then 0 else 3) else sR l ref at_
def GG (l:List (List Int)) (ref at_ n:Int):Int:=if dd l=0 then GJ l ref at_ n else dd l
def put (l:List (List Int)) (ref at_ n:Int):List (List Int):=l.set (ref - 1).toNat ((blk l ref).set at_.toNat n)
def HB (l:List (List Int)) (ref at_ n:Int):List (List Int):=if GG l ref at_ n=0 then put l ref at_ n else []
def cC (l:List (List Int)) (refs:List Int):Nat->List (List Int)
 | 0=> []
 | k+1=>cC l refs k++(if refs.contains ((k:Int)+1) then [l.getD k []] else [])
def dR (l:List (List Int)) (refs:List Int) (r:Int):Int:=if r=0 then 0 else (cC l refs r.toNat).length
def BJ (l:List (List Int)) (refs:List Int):Int:=if dd l=0 then (if refs.any (fun r=>decide (r<0) || decide ((l.length:Int)<r)) then 3 else 0) else dd l
def Hi (l:List (List Int)) (refs:List Int):List (List Int):=if BJ l refs=0 then cC l refs l.length else []
def Hh (l:List (List Int)) (refs:List Int):List Int:=if BJ l refs=0 then refs.map (dR l refs) else []
theorem ln (l:List (List Int)) (b:List Int):cz (l++ [b])=cz l+b.length:=by simp[cz]
theorem dT {α:Type} (l:List α) (k:Nat) (d:α) (h:k<l.length):l.take (k+1)=l.take k++ [l.getD k d]:=by
 rw[List.take_add_one,ae h,ac,ae h];rfl
theorem uP (l:List (List Int)) (k:Nat) (h:k<l.length):cz (l.take (k+1))=cz (l.take k)+(l.getD k []).length:=by rw[dT l k [] h,ln]
theorem wV {l:List (List Int)} {b:List Int} (h:b∈l):b.length<=cz l:=by
 induction l with
 | nil=>cases h
 | cons c l ih=>
  simp only[cz,cZ,List.sum_cons] at *
  rcases cu.1 h with rfl | h
  ·omega
  have:=ih h;omega
theorem gY {l:List (List Int)} (h:dd l=0):l.length<=8/\cz l<=40:=by
 unfold dd at h
 split at h
 ·cases h
 omega
end
end Go.Proofs.YthfkmcbblnbfaaaGreatDoor
