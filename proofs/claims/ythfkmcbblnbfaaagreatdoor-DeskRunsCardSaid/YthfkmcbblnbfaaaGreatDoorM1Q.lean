/- Lemmas of one proof. -/
import Derived.Test.YthfkmcbblnbfaaaGreatDoorM0Q

namespace Go.Proofs.YthfkmcbblnbfaaaGreatDoor
set_option maxRecDepth 100000
set_option maxHeartbeats 16000000
section
structure bd where
 c:Int
 a:Int
instance:Inhabited bd:=⟨⟨0,0⟩⟩
instance:DecidableEq bd:=fun x y=>decidable_of_iff (x.c=y.c/\x.a=y.a) ⟨fun⟨h1,h2⟩=>by cases x;cases y;simp_all,fun h=>by simp[h]⟩
def gX (c:Int):Bool:=decide (c=1) || (decide (c=8) || (decide (c=9) || (decide (c=10) || (decide (c=11) || decide (c=12)))))
def jw (c:Int):Bool:=decide (1<=c) && decide (c<=21)
def bB (n:Int):Bool:=decide (-2147483648<=n) && decide (n<=2147483647)
def fd (o:bd):Int:=if !jw o.c then 6 else if !gX o.c && o.a != 0 then 1 else if !bB o.a then 3 else 0
def iE (n:Int):Int:=(n+2147483648) % 4294967296 - 2147483648
def dw (n:Int):List UInt8:=
 [UInt8.ofNat (n % 4294967296 / 16777216).toNat,UInt8.ofNat (n % 4294967296 / 65536 % 256).toNat,UInt8.ofNat (n % 4294967296 / 256 % 256).toNat,UInt8.ofNat (n % 256).toNat]
def kz (l:List UInt8):Int:=l.foldl (fun u c=>(u*256+c.toNat) % 4294967296) 0
def cU (l:List UInt8):Int:=iE (kz l)
def eC:List bd->Int
 | []=>0
 | o::l=>if fd o != 0 then fd o else eC l
def dL (l:List bd):Int:=if l.length > 40 then 2 else eC l
def jv (o:bd):List UInt8:=UInt8.ofNat (o.c % 256).toNat::(if gX o.c then dw o.a else [])
def br (l:List bd):List UInt8:=l.flatMap jv
def lW (l:List bd):List UInt8×Int:=if dL l != 0 then ([],dL l) else (br l,0)
def eY (l:List UInt8) (n:Int):List UInt8×List UInt8×Bool:=if (l.length:Int)<n then ([],[],false) else (l.take n.toNat,l.drop n.toNat,true)
def bh (b:UInt8) (l:List UInt8):bd×List UInt8×Bool:=
 if !jw b.toNat then (⟨b.toNat,0⟩,l,false) else if !gX b.toNat then (⟨b.toNat,0⟩,l,true) else
 (⟨b.toNat,if (eY l 4).2.2 then cU (eY l 4).1 else 0⟩,(eY l 4).2.1,(eY l 4).2.2)
def bQ:Nat->List UInt8->List bd->List bd×Int
 | _,[],out=>(out,0)
 | 0,_::_,_=>([],1)
 | k+1,b::l,out=>
  if !(bh b l).2.2 then ([],1) else if out.length == 40 then ([],2) else bQ k (bh b l).2.1 (out++ [(bh b l).1])
def be (l:List UInt8):List bd×Int:=bQ l.length l []
end
section
theorem jr (n:Nat) (h:n<256):(UInt8.ofNat n).toNat=n:=by simp[UInt8.toNat_ofNat'];omega
theorem rS (a:Int) (h:bB a=true):cU (dw a)=a:=by
 simp[bB] at h
 have e0:=jr (a % 4294967296 / 16777216).toNat (by omega)
 have e1:=jr (a % 4294967296 / 65536 % 256).toNat (by omega)
 have e2:=jr (a % 4294967296 / 256 % 256).toNat (by omega)
 have e3:=jr (a % 256).toNat (by omega)
 simp only[cU,dw,kz,List.foldl_cons,List.foldl_nil,e0,e1,e2,e3,iE]
 omega
theorem yP (b0 b1 b2 b3:UInt8):dw (cU [b0,b1,b2,b3])= [b0,b1,b2,b3]:=by
 have h0:=b0.toNat_lt
 have h1:=b1.toNat_lt
 have h2:=b2.toNat_lt
 have h3:=b3.toNat_lt
 have key:∀(b:UInt8) (n:Int),n=b.toNat->UInt8.ofNat n.toNat=b:=by
  intro b n h;subst h;simp
 have hn:cU [b0,b1,b2,b3] % 4294967296=((((b0.toNat:Int)*256+b1.toNat)*256+b2.toNat)*256+b3.toNat):=by
  simp only[cU,kz,List.foldl_cons,List.foldl_nil,iE];omega
 generalize cU [b0,b1,b2,b3]=n at *
 rw[dw,key b0 (n % 4294967296 / 16777216) (by omega),key b1 (n % 4294967296 / 65536 % 256) (by omega),key b2 (n % 4294967296 / 256 % 256) (by omega),key b3 (n % 256) (by omega)]
theorem qv (l:List UInt8):bB (cU l)=true:=by
 have h: -2147483648<=cU l/\cU l<=2147483647:=by unfold cU iE;omega
 simp[bB,h.1,h.2]
theorem yQ (o:bd) (h:jw o.c=true/\(gX o.c=true\/o.a=0)/\bB o.a=true) (r:List UInt8) :
  ∃b t,jv o=b::t/\bh b (t++r)=(o,r,true):=by
 obtain⟨hc,hn,hi⟩:=h
 have hcc:=hc
 simp[jw] at hcc
 have hb:((UInt8.ofNat (o.c % 256).toNat).toNat:Int)=o.c:=by rw[jr _ (by omega)];omega
 refine⟨_,_,rfl,?_⟩
 obtain⟨c,a⟩:=o
 simp only at hc hn hi hb⊢
 unfold bh
 rw[hb,hc]
 cases hnn:gX c with
 | false=>
  have:a=0:=by
   rcases hn with h | h;· rw[h] at hnn;cases hnn
   ·exact h
  subst this
  simp
 | true=>
  have h4:¬((dw a++r).length:Int)<4:=by simp[dw];omega
  have ht:(dw a++r).take 4=dw a:=by simp[dw]
  have hd:(dw a++r).drop 4=r:=by simp[dw]
  have hcut:eY (dw a++r) 4=(dw a,r,true):=by
   unfold eY;rw[if_neg h4]
   show ((dw a++r).take 4,(dw a++r).drop 4,true)=_
   rw[ht,hd]
  simp[hcut,rS a hi]
theorem yX (b:UInt8) (l:List UInt8) (h:(bh b l).2.2=true):fd (bh b l).1=0/\b::l=jv (bh b l).1++(bh b l).2.1:=by
 have hb8:=b.toNat_lt
 have hbb:UInt8.ofNat ((b.toNat:Int) % 256).toNat=b:=by
  rw[show ((b.toNat:Int) % 256).toNat=b.toNat from by omega];simp
 unfold bh at h⊢
 cases hc:jw b.toNat with
 | false=>rw[hc] at h;simp at h
 | true=>
  rw[hc] at h
  cases hn:gX b.toNat with
  | false=>
   simp only[Bool.not_true,Bool.not_false,if_true]
   refine⟨?_,?_⟩
   ·simp[fd,hc,hn,bB]
   simp[jv,hn,hbb]
  | true=>
   rw[hn] at h
   simp only[Bool.not_true] at h⊢
   by_cases h4:(l.length:Int)<4
   ·have hcut:eY l 4=([],[],false):=by unfold eY;rw[if_pos h4]
    rw[hcut] at h;simp at h
   have hcut:eY l 4=(l.take 4,l.drop 4,true):=by unfold eY;rw[if_neg h4];rfl
   rw[hcut]
   have hl4:∃b0 b1 b2 b3 r,l=b0::b1::b2::b3::r:=by
    match l,h4 with
    | b0::b1::b2::b3::r,_=>exact⟨_,_,_,_,_,rfl⟩
    | [],h=>simp at h
    | [_],h=>simp at h
    | [_,_],h=>simp at h
    | [_,_,_],h=>simp at h
   obtain⟨b0,b1,b2,b3,r,rfl⟩:=hl4
   refine⟨?_,?_⟩
   ·simp[fd,hc,hn,qv]
   simp[jv,hn,hbb,yP]
theorem yT (k:Nat):∀(r:List UInt8) (out res:List bd),bQ k r out=(res,0)->out.length<=40->∃new,res=out++new/\br new=r/\(∀o∈new,fd o=0)/\res.length<=40:=by
 induction k with
 | zero=>
  intro r out res h h40
  cases r with
  | nil=>simp[bQ] at h;subst h;exact⟨[],by simp,by simp[br],by simp,h40⟩
  | cons b r=>simp[bQ] at h
 | succ k ih=>
  intro r out res h h40
  cases r with
  | nil=>simp[bQ] at h;subst h;exact⟨[],by simp,by simp[br],by simp,h40⟩
  | cons b r=>
   simp only[bQ] at h
   split at h
   ·simp at h
   rename_i hok
   split at h
   ·simp at h
   rename_i h41
   obtain⟨h1,h2⟩:=yX b r (by simpa using hok)
   obtain⟨new,e1,e2,e3,e4⟩:=ih _ _ _ h (by simp at h41⊢;omega)
   refine⟨(bh b r).1::new,by rw[e1];simp,?_,?_,e4⟩
   ·rw[h2,<-e2];simp[br]
   intro o ho
   rcases dd.1 ho with rfl | ho
   ·exact h1
   exact e3 o ho
theorem BT {l:List bd} (h:∀o∈l,fd o=0):eC l=0:=by
 induction l with
 | nil=>rfl
 | cons a l ih=>simp[eC,h a (by simp)];exact ih (fun o ho=>h o (by simp[ho]))
theorem yS (s:List UInt8) (h:(be s).2=0):lW (be s).1=(s,0):=by
 obtain⟨new,e1,e2,e3,e4⟩:=yT s.length s [] (be s).1 (by rw[<-h];rfl) (by simp)
 simp at e1
 subst e1
 have hc:dL (be s).1=0:=by unfold dL;rw[if_neg (by omega),BT e3]
 simp[lW,hc,e2]
theorem nz:∀(l out:List bd) (k:Nat),(∀o∈l,jw o.c=true/\(gX o.c=true\/o.a=0)/\bB o.a=true)->out.length+l.length<=40->(br l).length<=k->bQ k (br l) out=(out++l,0)
 | [],out,k,_,_,_=>by cases k <;> simp[br,bQ]
 | o::l,out,k,h,h40,hk=>by
  obtain⟨b,t,e1,e2⟩:=yQ o (h o (by simp)) (br l)
  have e3:br (o::l)=b::(t++br l):=by simp[br,e1]
  rw[e3] at hk⊢
  cases k with
  | zero=>simp at hk
  | succ k=>
   have h41:(out.length == 40)=false:=by simp at h40⊢;omega
   simp only[bQ,e2,h41]
   have:=nz l (out++ [o]) k (fun o ho=>h o (by simp[ho])) (by simp at h40⊢;omega) (by simp at hk;omega)
   simpa using this
end
section
def cC (l:List (List Int)):Nat:=(l.map List.length).sum
def dR (b:List Int):Bool:=b.any fun n=>!bB n
def cc (l:List (List Int)):Int:=if 8<l.length\/40<cC l then 2 else if l.any dR then 3 else 0
def mt (l:List (List Int)) (size:Int):Int:=if size<0 then 3 else if l.length=8\/40 - (cC l:Int)<size then 7 else 0
def jX (l:List (List Int)) (size:Int):Int:=if cc l=0 then mt l size else cc l
def uR (l:List (List Int)) (size:Int):List (List Int):=if jX l size=0 then l++ [List.replicate size.toNat 0] else []
def EA (l:List (List Int)) (size:Int):Int:=if jX l size=0 then l.length+1 else 0
def blk (l:List (List Int)) (ref:Int):List Int:=l.getD (ref - 1).toNat []
def qk (l:List (List Int)) (ref at_:Int):Int:=if ref=0 then 5 else if ref<0\/(l.length:Int)<ref\/at_<0\/((blk l ref).length:Int)<=at_ then 3 else 0
def Qu (l:List (List Int)) (ref at_:Int):Int:=if cc l=0 then qk l ref at_ else cc l
def Rf (l:List (List Int)) (ref at_:Int):Int:=if Qu l ref at_=0 then (blk l ref).getD at_.toNat 0 else 0
def Jp (l:List (List Int)) (ref at_ n:Int):Int:=if qk l ref at_=0 then (if bB n then 0 else 3) else qk l ref at_
def wR (l:List (List Int)) (ref at_ n:Int):Int:=if cc l=0 then Jp l ref at_ n else cc l
def put (l:List (List Int)) (ref at_ n:Int):List (List Int):=l.set (ref - 1).toNat ((blk l ref).set at_.toNat n)
def Ei (l:List (List Int)) (ref at_ n:Int):List (List Int):=if wR l ref at_ n=0 then put l ref at_ n else []
def bY (l:List (List Int)) (refs:List Int):Nat->List (List Int)
 | 0=> []
 | k+1=>bY l refs k++(if refs.contains ((k:Int)+1) then [l.getD k []] else [])
def ek (l:List (List Int)) (refs:List Int) (r:Int):Int:=if r=0 then 0 else (bY l refs r.toNat).length
def EH (l:List (List Int)) (refs:List Int):Int:=if cc l=0 then (if refs.any (fun r=>decide (r<0) || decide ((l.length:Int)<r)) then 3 else 0) else cc l
def QX (l:List (List Int)) (refs:List Int):List (List Int):=if EH l refs=0 then bY l refs l.length else []
def QW (l:List (List Int)) (refs:List Int):List Int:=if EH l refs=0 then refs.map (ek l refs) else []
theorem ll (l:List (List Int)) (b:List Int):cC (l++ [b])=cC l+b.length:=by simp[cC]
theorem ei {α:Type} (l:List α) (k:Nat) (d:α) (h:k<l.length):l.take (k+1)=l.take k++ [l.getD k d]:=by
 rw[List.take_add_one,ap h,ak,ap h];rfl
theorem ul (l:List (List Int)) (k:Nat) (h:k<l.length):cC (l.take (k+1))=cC (l.take k)+(l.getD k []).length:=by rw[ei l k [] h,ll]
theorem Fd {l:List (List Int)} {b:List Int} (h:b∈l):b.length<=cC l:=by
 induction l with
 | nil=>cases h
 | cons c l ih=>
  simp only[cC,ee,List.sum_cons] at *
  rcases dd.1 h with rfl | h
  ·omega
  have:=ih h;omega
theorem iZ {l:List (List Int)} (h:cc l=0):l.length<=8/\cC l<=40:=by
 unfold cc at h
 split at h
 ·cases h
 omega
end
