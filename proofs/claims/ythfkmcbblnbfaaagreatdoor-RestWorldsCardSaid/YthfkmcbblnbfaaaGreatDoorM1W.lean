/- Lemmas of one proof. -/
import Derived.Test.YthfkmcbblnbfaaaGreatDoorM90W
import Derived.Test.YthfkmcbblnbfaaaGreatDoorM0W

namespace Go.Proofs.YthfkmcbblnbfaaaGreatDoor
set_option maxRecDepth 100000
set_option maxHeartbeats 16000000
section
structure bG where
 c:Int
 a:Int
instance:Inhabited bG:=⟨⟨0,0⟩⟩
instance:DecidableEq bG:=fun x y=>decidable_of_iff (x.c=y.c/\x.a=y.a) ⟨fun⟨h1,h2⟩=>by cases x;cases y;simp_all,fun h=>by simp[h]⟩
def jH (c:Int):Bool:=decide (c=1) || (decide (c=8) || (decide (c=9) || (decide (c=10) || (decide (c=11) || decide (c=12)))))
def kV (c:Int):Bool:=decide (1<=c) && decide (c<=21)
def bT (n:Int):Bool:=decide (-2147483648<=n) && decide (n<=2147483647)
def fM (o:bG):Int:=if !kV o.c then 6 else if !jH o.c && o.a != 0 then 1 else if !bT o.a then 3 else 0
def jV (n:Int):Int:=(n+2147483648) % 4294967296 - 2147483648
def eO (n:Int):List UInt8:=
 [UInt8.ofNat (n % 4294967296 / 16777216).toNat,UInt8.ofNat (n % 4294967296 / 65536 % 256).toNat,UInt8.ofNat (n % 4294967296 / 256 % 256).toNat,UInt8.ofNat (n % 256).toNat]
def ne (l:List UInt8):Int:=l.foldl (fun u c=>(u*256+c.toNat) % 4294967296) 0
def en (l:List UInt8):Int:=jV (ne l)
def fB:List bG->Int
 | []=>0
 | o::l=>if fM o != 0 then fM o else fB l
def eL (l:List bG):Int:=if l.length > 40 then 2 else fB l
def lH (o:bG):List UInt8:=UInt8.ofNat (o.c % 256).toNat::(if jH o.c then eO o.a else [])
def cD (l:List bG):List UInt8:=l.flatMap lH
def nt (l:List bG):List UInt8×Int:=if eL l != 0 then ([],eL l) else (cD l,0)
def gJ (l:List UInt8) (n:Int):List UInt8×List UInt8×Bool:=if (l.length:Int)<n then ([],[],false) else (l.take n.toNat,l.drop n.toNat,true)
def bW (b:UInt8) (l:List UInt8):bG×List UInt8×Bool:=
 if !kV b.toNat then (⟨b.toNat,0⟩,l,false) else if !jH b.toNat then (⟨b.toNat,0⟩,l,true) else
 (⟨b.toNat,if (gJ l 4).2.2 then en (gJ l 4).1 else 0⟩,(gJ l 4).2.1,(gJ l 4).2.2)
def dg:Nat->List UInt8->List bG->List bG×Int
 | _,[],out=>(out,0)
 | 0,_::_,_=>([],1)
 | k+1,b::l,out=>
  if !(bW b l).2.2 then ([],1) else if out.length == 40 then ([],2) else dg k (bW b l).2.1 (out++ [(bW b l).1])
def bP (l:List UInt8):List bG×Int:=dg l.length l []
end
section
theorem lC (n:Nat) (h:n<256):(UInt8.ofNat n).toNat=n:=by simp[UInt8.toNat_ofNat'];omega
theorem vN (a:Int) (h:bT a=true):en (eO a)=a:=by
 simp[bT] at h;have b:=lC (a % 4294967296 / 16777216).toNat ω;have c:=lC (a % 4294967296 / 65536 % 256).toNat ω;have d:=lC (a % 4294967296 / 256 % 256).toNat ω;have e:=lC (a % 256).toNat ω;simp only[en,eO,ne,List.foldl_cons,List.foldl_nil,b,c,d,e,jV];omega
theorem ug (l:List UInt8):bT (en l)=true:=by
 have a: -2147483648<=en l/\en l<=2147483647:=by unfold en jV;omega
 simp[bT,a.1,a.2]
end
section
def dq (l:List (List Int)):Nat:=(l.map List.length).sum
def dw (b:List Int):Bool:=b.any fun n=>!bT n
def cR (l:List (List Int)):Int:=if 8<l.length\/40<dq l then 2 else if l.any dw then 3 else 0
def iZ (l:List (List Int)) (size:Int):Int:=if size<0 then 3 else if l.length=8\/40 - (dq l:Int)<size then 7 else 0
def mK (l:List (List Int)) (size:Int):Int:=if cR l=0 then iZ l size else cR l
def zb (l:List (List Int)) (size:Int):List (List Int):=if mK l size=0 then l++ [List.replicate size.toNat 0] else []
def Jb (l:List (List Int)) (size:Int):Int:=if mK l size=0 then l.length+1 else 0
def blk (l:List (List Int)) (ref:Int):List Int:=l.getD (ref - 1).toNat []
def tW (l:List (List Int)) (ref at_:Int):Int:=if ref=0 then 5 else if ref<0\/(l.length:Int)<ref\/at_<0\/((blk l ref).length:Int)<=at_ then 3 else 0
def NJ (l:List (List Int)) (ref at_ n:Int):Int:=if tW l ref at_=0 then (if bT n then 0 else 3) else tW l ref at_
def BA (l:List (List Int)) (ref at_ n:Int):Int:=if cR l=0 then NJ l ref at_ n else cR l
def put (l:List (List Int)) (ref at_ n:Int):List (List Int):=l.set (ref - 1).toNat ((blk l ref).set at_.toNat n)
def IL (l:List (List Int)) (ref at_ n:Int):List (List Int):=if BA l ref at_ n=0 then put l ref at_ n else []
def di (l:List (List Int)) (refs:List Int):Nat->List (List Int)
 | 0=> []
 | k+1=>di l refs k++(if refs.contains ((k:Int)+1) then [l.getD k []] else [])
def fx (l:List (List Int)) (refs:List Int) (r:Int):Int:=if r=0 then 0 else (di l refs r.toNat).length
def Ji (l:List (List Int)) (refs:List Int):Int:=if cR l=0 then (if refs.any (fun r=>decide (r<0) || decide ((l.length:Int)<r)) then 3 else 0) else cR l
theorem nZ (l:List (List Int)) (b:List Int):dq (l++ [b])=dq l+b.length:=by simp[dq]
theorem eF {α:Type} (l:List α) (k:Nat) (d:α) (h:k<l.length):l.take (k+1)=l.take k++ [l.getD k d]:=by
 rw[List.take_add_one,aq h,ap,aq h];rfl
theorem yn (l:List (List Int)) (k:Nat) (h:k<l.length):dq (l.take (k+1))=dq (l.take k)+(l.getD k []).length:=by rw[eF l k [] h,nZ]
theorem JP {l:List (List Int)} {b:List Int} (h:b∈l):b.length<=dq l:=by
 induction l with
 | nil=>cases h
 | cons c l a=>
  simp only[dq,eM,B9] at *;rcases eo.1 h with rfl | h
  ·omega
  have:=a h;omega
theorem gS {l:List (List Int)} (h:cR l=0):l.length<=8/\dq l<=40:=by
 unfold cR at h
 split at h
 ·cases h
 omega
end
