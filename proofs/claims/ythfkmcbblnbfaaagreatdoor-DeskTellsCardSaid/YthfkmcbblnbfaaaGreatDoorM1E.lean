/- Lemmas of one proof. -/
import Derived.Test.YthfkmcbblnbfaaaGreatDoorM90E
import Derived.Test.YthfkmcbblnbfaaaGreatDoorM0E

namespace Go.Proofs.YthfkmcbblnbfaaaGreatDoor
set_option maxRecDepth 100000
set_option maxHeartbeats 16000000
section
structure bJ where
 c:Int
 a:Int
instance:Inhabited bJ:=⟨⟨0,0⟩⟩
instance:DecidableEq bJ:=fun x y=>decidable_of_iff (x.c=y.c/\x.a=y.a) ⟨fun⟨h1,h2⟩=>by cases x;cases y;simp_all,fun h=>by simp[h]⟩
def jD (c:Int):Bool:=decide (c=1) || (decide (c=8) || (decide (c=9) || (decide (c=10) || (decide (c=11) || decide (c=12)))))
def kO (c:Int):Bool:=decide (1<=c) && decide (c<=21)
def bP (n:Int):Bool:=decide (-2147483648<=n) && decide (n<=2147483647)
def gg (o:bJ):Int:=if !kO o.c then 6 else if !jD o.c && o.a != 0 then 1 else if !bP o.a then 3 else 0
def km (n:Int):Int:=(n+2147483648) % 4294967296 - 2147483648
def eO (n:Int):List UInt8:=
 [UInt8.ofNat (n % 4294967296 / 16777216).toNat,UInt8.ofNat (n % 4294967296 / 65536 % 256).toNat,UInt8.ofNat (n % 4294967296 / 256 % 256).toNat,UInt8.ofNat (n % 256).toNat]
def mO (l:List UInt8):Int:=l.foldl (fun u c=>(u*256+c.toNat) % 4294967296) 0
def eb (l:List UInt8):Int:=km (mO l)
def fD:List bJ->Int
 | []=>0
 | o::l=>if gg o != 0 then gg o else fD l
def eJ (l:List bJ):Int:=if l.length > 40 then 2 else fD l
def lx (o:bJ):List UInt8:=UInt8.ofNat (o.c % 256).toNat::(if jD o.c then eO o.a else [])
def cq (l:List bJ):List UInt8:=l.flatMap lx
def gj (l:List UInt8) (n:Int):List UInt8×List UInt8×Bool:=if (l.length:Int)<n then ([],[],false) else (l.take n.toNat,l.drop n.toNat,true)
def bT (b:UInt8) (l:List UInt8):bJ×List UInt8×Bool:=
 if !kO b.toNat then (⟨b.toNat,0⟩,l,false) else if !jD b.toNat then (⟨b.toNat,0⟩,l,true) else
 (⟨b.toNat,if (gj l 4).2.2 then eb (gj l 4).1 else 0⟩,(gj l 4).2.1,(gj l 4).2.2)
def cZ:Nat->List UInt8->List bJ->List bJ×Int
 | _,[],out=>(out,0)
 | 0,_::_,_=>([],1)
 | k+1,b::l,out=>
  if !(bT b l).2.2 then ([],1) else if out.length == 40 then ([],2) else cZ k (bT b l).2.1 (out++ [(bT b l).1])
def bC (l:List UInt8):List bJ×Int:=cZ l.length l []
end
section
theorem lq (n:Nat) (h:n<256):(UInt8.ofNat n).toNat=n:=by simp[UInt8.toNat_ofNat'];omega
theorem vr (a:Int) (h:bP a=true):eb (eO a)=a:=by
 simp[bP] at h;have b:=lq (a % 4294967296 / 16777216).toNat ω;have c:=lq (a % 4294967296 / 65536 % 256).toNat ω;have d:=lq (a % 4294967296 / 256 % 256).toNat ω;have e:=lq (a % 256).toNat ω;simp only[eb,eO,mO,List.foldl_cons,List.foldl_nil,b,c,d,e,km];omega
theorem tN (l:List UInt8):bP (eb l)=true:=by
 have a: -2147483648<=eb l/\eb l<=2147483647:=by unfold eb km;omega
 simp[bP,a.1,a.2]
end
section
def dg (l:List (List Int)):Nat:=(l.map List.length).sum
def dp (b:List Int):Bool:=b.any fun n=>!bP n
def cH (l:List (List Int)):Int:=if 8<l.length\/40<dg l then 2 else if l.any dp then 3 else 0
def ja (l:List (List Int)) (size:Int):Int:=if size<0 then 3 else if l.length=8\/40 - (dg l:Int)<size then 7 else 0
def mq (l:List (List Int)) (size:Int):Int:=if cH l=0 then ja l size else cH l
def yF (l:List (List Int)) (size:Int):List (List Int):=if mq l size=0 then l++ [List.replicate size.toNat 0] else []
def IC (l:List (List Int)) (size:Int):Int:=if mq l size=0 then l.length+1 else 0
def blk (l:List (List Int)) (ref:Int):List Int:=l.getD (ref - 1).toNat []
def tB (l:List (List Int)) (ref at_:Int):Int:=if ref=0 then 5 else if ref<0\/(l.length:Int)<ref\/at_<0\/((blk l ref).length:Int)<=at_ then 3 else 0
def Ni (l:List (List Int)) (ref at_ n:Int):Int:=if tB l ref at_=0 then (if bP n then 0 else 3) else tB l ref at_
def AX (l:List (List Int)) (ref at_ n:Int):Int:=if cH l=0 then Ni l ref at_ n else cH l
def put (l:List (List Int)) (ref at_ n:Int):List (List Int):=l.set (ref - 1).toNat ((blk l ref).set at_.toNat n)
def Ia (l:List (List Int)) (ref at_ n:Int):List (List Int):=if AX l ref at_ n=0 then put l ref at_ n else []
def cW (l:List (List Int)) (refs:List Int):Nat->List (List Int)
 | 0=> []
 | k+1=>cW l refs k++(if refs.contains ((k:Int)+1) then [l.getD k []] else [])
def fy (l:List (List Int)) (refs:List Int) (r:Int):Int:=if r=0 then 0 else (cW l refs r.toNat).length
def IJ (l:List (List Int)) (refs:List Int):Int:=if cH l=0 then (if refs.any (fun r=>decide (r<0) || decide ((l.length:Int)<r)) then 3 else 0) else cH l
theorem nN (l:List (List Int)) (b:List Int):dg (l++ [b])=dg l+b.length:=by simp[dg]
theorem eE {α:Type} (l:List α) (k:Nat) (d:α) (h:k<l.length):l.take (k+1)=l.take k++ [l.getD k d]:=by
 rw[List.take_add_one,aq h,ap,aq h];rfl
theorem xR (l:List (List Int)) (k:Nat) (h:k<l.length):dg (l.take (k+1))=dg (l.take k)+(l.getD k []).length:=by rw[eE l k [] h,nN]
theorem Jf {l:List (List Int)} {b:List Int} (h:b∈l):b.length<=dg l:=by
 induction l with
 | nil=>cases h
 | cons c l a=>
  simp only[dg,eL,BB] at *;rcases ec.1 h with rfl | h
  ·omega
  have:=a h;omega
theorem gO {l:List (List Int)} (h:cH l=0):l.length<=8/\dg l<=40:=by
 unfold cH at h
 split at h
 ·cases h
 omega
end
