/- Lemmas of one proof. -/
import Derived.Test.YthfkmcbblnbfaaaGreatDoorM0R

namespace Go.Proofs.YthfkmcbblnbfaaaGreatDoor
set_option maxRecDepth 100000
set_option maxHeartbeats 16000000
section
structure bC where
 c:Int
 a:Int
instance:Inhabited bC:=⟨⟨0,0⟩⟩
instance:DecidableEq bC:=fun x y=>decidable_of_iff (x.c=y.c/\x.a=y.a) ⟨fun⟨h1,h2⟩=>by cases x;cases y;simp_all,fun h=>by simp[h]⟩
def iO (c:Int):Bool:=decide (c=1) || (decide (c=8) || (decide (c=9) || (decide (c=10) || (decide (c=11) || decide (c=12)))))
def jJ (c:Int):Bool:=decide (1<=c) && decide (c<=21)
def cd (n:Int):Bool:=decide (-2147483648<=n) && decide (n<=2147483647)
def eY (o:bC):Int:=if !jJ o.c then 6 else if !iO o.c && o.a != 0 then 1 else if !cd o.a then 3 else 0
def jt (n:Int):Int:=(n+2147483648) % 4294967296 - 2147483648
def eA (n:Int):List UInt8:=
 [UInt8.ofNat (n % 4294967296 / 16777216).toNat,UInt8.ofNat (n % 4294967296 / 65536 % 256).toNat,UInt8.ofNat (n % 4294967296 / 256 % 256).toNat,UInt8.ofNat (n % 256).toNat]
def ly (l:List UInt8):Int:=l.foldl (fun u c=>(u*256+c.toNat) % 4294967296) 0
def dJ (l:List UInt8):Int:=jt (ly l)
def fh:List bC->Int
 | []=>0
 | o::l=>if eY o != 0 then eY o else fh l
def ei (l:List bC):Int:=if l.length > 40 then 2 else fh l
def fH (l:List UInt8) (n:Int):List UInt8×List UInt8×Bool:=if (l.length:Int)<n then ([],[],false) else (l.take n.toNat,l.drop n.toNat,true)
def bM (b:UInt8) (l:List UInt8):bC×List UInt8×Bool:=
 if !jJ b.toNat then (⟨b.toNat,0⟩,l,false) else if !iO b.toNat then (⟨b.toNat,0⟩,l,true) else
 (⟨b.toNat,if (fH l 4).2.2 then dJ (fH l 4).1 else 0⟩,(fH l 4).2.1,(fH l 4).2.2)
def cJ:Nat->List UInt8->List bC->List bC×Int
 | _,[],out=>(out,0)
 | 0,_::_,_=>([],1)
 | k+1,b::l,out=>
  if !(bM b l).2.2 then ([],1) else if out.length == 40 then ([],2) else cJ k (bM b l).2.1 (out++ [(bM b l).1])
def bI (l:List UInt8):List bC×Int:=cJ l.length l []
end
section
theorem rE (l:List UInt8):cd (dJ l)=true:=by
 have h: -2147483648<=dJ l/\dJ l<=2147483647:=by unfold dJ jt;omega
 simp[cd,h.1,h.2]
end
section
def cZ (l:List (List Int)):Nat:=(l.map List.length).sum
def dq (b:List Int):Bool:=b.any fun n=>!cd n
def cz (l:List (List Int)):Int:=if 8<l.length\/40<cZ l then 2 else if l.any dq then 3 else 0
def iu (l:List (List Int)) (size:Int):Int:=if size<0 then 3 else if l.length=8\/40 - (cZ l:Int)<size then 7 else 0
def lf (l:List (List Int)) (size:Int):Int:=if cz l=0 then iu l size else cz l
def wv (l:List (List Int)) (size:Int):List (List Int):=if lf l size=0 then l++ [List.replicate size.toNat 0] else []
def FY (l:List (List Int)) (size:Int):Int:=if lf l size=0 then l.length+1 else 0
def blk (l:List (List Int)) (ref:Int):List Int:=l.getD (ref - 1).toNat []
def rt (l:List (List Int)) (ref at_:Int):Int:=if ref=0 then 5 else if ref<0\/(l.length:Int)<ref\/at_<0\/((blk l ref).length:Int)<=at_ then 3 else 0
def Kb (l:List (List Int)) (ref at_ n:Int):Int:=if rt l ref at_=0 then (if cd n then 0 else 3) else rt l ref at_
def yI (l:List (List Int)) (ref at_ n:Int):Int:=if cz l=0 then Kb l ref at_ n else cz l
def put (l:List (List Int)) (ref at_ n:Int):List (List Int):=l.set (ref - 1).toNat ((blk l ref).set at_.toNat n)
def Fz (l:List (List Int)) (ref at_ n:Int):List (List Int):=if yI l ref at_ n=0 then put l ref at_ n else []
def cR (l:List (List Int)) (refs:List Int):Nat->List (List Int)
 | 0=> []
 | k+1=>cR l refs k++(if refs.contains ((k:Int)+1) then [l.getD k []] else [])
def eS (l:List (List Int)) (refs:List Int) (r:Int):Int:=if r=0 then 0 else (cR l refs r.toNat).length
def F6 (l:List (List Int)) (refs:List Int):Int:=if cz l=0 then (if refs.any (fun r=>decide (r<0) || decide ((l.length:Int)<r)) then 3 else 0) else cz l
theorem mv (l:List (List Int)) (b:List Int):cZ (l++ [b])=cZ l+b.length:=by simp[cZ]
theorem fe {α:Type} (l:List α) (k:Nat) (d:α) (h:k<l.length):l.take (k+1)=l.take k++ [l.getD k d]:=by
 rw[List.take_add_one,ap h,an,ap h];rfl
theorem vH (l:List (List Int)) (k:Nat) (h:k<l.length):cZ (l.take (k+1))=cZ (l.take k)+(l.getD k []).length:=by rw[fe l k [] h,mv]
theorem GA {l:List (List Int)} {b:List Int} (h:b∈l):b.length<=cZ l:=by
 induction l with
 | nil=>cases h
 | cons c l ih=>
  simp only[cZ,et,List.sum_cons] at *
  rcases dC.1 h with rfl | h
  ·omega
  have:=ih h;omega
theorem fZ {l:List (List Int)} (h:cz l=0):l.length<=8/\cZ l<=40:=by
 unfold cz at h
 split at h
 ·cases h
 omega
end
