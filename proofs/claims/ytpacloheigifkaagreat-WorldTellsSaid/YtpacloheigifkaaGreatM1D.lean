/- Texts of one proof, one behind the other: lemmas alone. -/

namespace Go.Proofs.YtpacloheigifkaaGreat
section
structure cn where
 c:Int
 a:Int
instance:Inhabited cn:=⟨⟨0,0⟩⟩
instance:DecidableEq cn:=fun x y=>decidable_of_iff (x.c=y.c∧x.a=y.a) ⟨fun⟨h1,h2⟩=>by cases x;cases y;simp_all,fun h=>by simp[h]⟩
def names (c:Int):Bool:=decide (c=1) || (decide (c=8) || (decide (c=9) || (decide (c=10) || (decide (c=11) || decide (c=12)))))
def ju (c:Int):Bool:=decide (1≤c) && decide (c≤21)
def cu (n:Int):Bool:=decide (-2147483648≤n) && decide (n≤2147483647)
def eE (o:cn):Int:=if !ju o.c then 6 else if !names o.c && o.a != 0 then 1 else if !cu o.a then 3 else 0
def ik (n:Int):Int:=(n+2147483648) % 4294967296 - 2147483648
def eB (n:Int):List UInt8:=
 [UInt8.ofNat (n % 4294967296 / 16777216).toNat,UInt8.ofNat (n % 4294967296 / 65536 % 256).toNat,UInt8.ofNat (n % 4294967296 / 256 % 256).toNat,UInt8.ofNat (n % 256).toNat]
def Au (l:List UInt8):Int:=l.foldl (fun u c=>(u*256+c.toNat) % 4294967296) 0
def gh (l:List UInt8):Int:=ik (Au l)
def ef:List cn→Int
 | []=>0
 | o::l=>if eE o != 0 then eE o else ef l
def d9 (l:List cn):Int:=if l.length > 40 then 2 else ef l
def kE (o:cn):List UInt8:=UInt8.ofNat (o.c % 256).toNat::(if names o.c then eB o.a else [])
def dC (l:List cn):List UInt8:=l.flatMap kE
def oF (l:List cn):List UInt8×Int:=if d9 l != 0 then ([],d9 l) else (dC l,0)
def iy (l:List UInt8) (n:Int):List UInt8×List UInt8×Bool:=if (l.length:Int)<n then ([],[],false) else (l.take n.toNat,l.drop n.toNat,true)
def fx (b:UInt8) (l:List UInt8):cn×List UInt8×Bool:=
 if !ju b.toNat then (⟨b.toNat,0⟩,l,false) else if !names b.toNat then (⟨b.toNat,0⟩,l,true) else
 (⟨b.toNat,if (iy l 4).2.2 then gh (iy l 4).1 else 0⟩,(iy l 4).2.1,(iy l 4).2.2)
def eR:Nat→List UInt8→List cn→List cn×Int
 | _,[],out=>(out,0)
 | 0,_::_,_=>([],1)
 | k+1,b::l,out=>
  if !(fx b l).2.2 then ([],1) else if out.length == 40 then ([],2) else eR k (fx b l).2.1 (out++ [(fx b l).1])
def fb (l:List UInt8):List cn×Int:=eR l.length l []
end
section
theorem gZ (n:Nat) (h:n<256):(UInt8.ofNat n).toNat=n:=by simp[UInt8.toNat_ofNat'];omega
theorem ss (a:Int) (h:cu a=true):gh (eB a)=a:=by
 simp[cu] at h
 have e0:=gZ (a % 4294967296 / 16777216).toNat (by omega)
 have e1:=gZ (a % 4294967296 / 65536 % 256).toNat (by omega)
 have e2:=gZ (a % 4294967296 / 256 % 256).toNat (by omega)
 have e3:=gZ (a % 256).toNat (by omega)
 simp only[gh,eB,Au,List.foldl_cons,List.foldl_nil,e0,e1,e2,e3,ik]
 omega
theorem sw (b0 b1 b2 b3:UInt8):eB (gh [b0,b1,b2,b3])= [b0,b1,b2,b3]:=by
 have h0:=b0.toNat_lt
 have h1:=b1.toNat_lt
 have h2:=b2.toNat_lt
 have h3:=b3.toNat_lt
 have key:∀(b:UInt8) (n:Int),n=b.toNat→UInt8.ofNat n.toNat=b:=by
  intro b n h;subst h;simp
 have hn:gh [b0,b1,b2,b3] % 4294967296=((((b0.toNat:Int)*256+b1.toNat)*256+b2.toNat)*256+b3.toNat):=by
  simp only[gh,Au,List.foldl_cons,List.foldl_nil,ik];omega
 generalize gh [b0,b1,b2,b3]=n at *
 rw[eB,key b0 (n % 4294967296 / 16777216) (by omega),key b1 (n % 4294967296 / 65536 % 256) (by omega),key b2 (n % 4294967296 / 256 % 256) (by omega),key b3 (n % 256) (by omega)]
theorem ry (l:List UInt8):cu (gh l)=true:=by
 have h: -2147483648≤gh l∧gh l≤2147483647:=by unfold gh ik;omega
 simp[cu,h.1,h.2]
theorem sx (o:cn) (h:ju o.c=true∧(names o.c=true∨o.a=0)∧cu o.a=true) (r:List UInt8) :
  ∃b t,kE o=b::t∧fx b (t++r)=(o,r,true):=by
 obtain⟨hc,hn,hi⟩:=h
 have hcc:=hc
 simp[ju] at hcc
 have hb:((UInt8.ofNat (o.c % 256).toNat).toNat:Int)=o.c:=by rw[gZ _ (by omega)];omega
 refine⟨_,_,rfl,?_⟩
 obtain⟨c,a⟩:=o
 simp only at hc hn hi hb⊢
 unfold fx
 rw[hb,hc]
 cases hnn:names c with
 | false=>
  have:a=0:=by
   rcases hn with h | h;· rw[h] at hnn;cases hnn
   ·exact h
  subst this
  simp
 | true=>
  have h4:¬((eB a++r).length:Int)<4:=by simp[eB];omega
  have ht:(eB a++r).take 4=eB a:=by simp[eB]
  have hd:(eB a++r).drop 4=r:=by simp[eB]
  have hcut:iy (eB a++r) 4=(eB a,r,true):=by
   unfold iy;rw[if_neg h4]
   show ((eB a++r).take 4,(eB a++r).drop 4,true)=_
   rw[ht,hd]
  simp[hcut,ss a hi]
theorem sF (b:UInt8) (l:List UInt8) (h:(fx b l).2.2=true):eE (fx b l).1=0∧b::l=kE (fx b l).1++(fx b l).2.1:=by
 have hb8:=b.toNat_lt
 have hbb:UInt8.ofNat ((b.toNat:Int) % 256).toNat=b:=by
  rw[show ((b.toNat:Int) % 256).toNat=b.toNat from by omega];simp
 unfold fx at h⊢
 cases hc:ju b.toNat with
 | false=>rw[hc] at h;simp at h
 | true=>
  rw[hc] at h
  cases hn:names b.toNat with
  | false=>
   simp only[Bool.not_true,Bool.not_false,if_true]
   refine⟨?_,?_⟩
   ·simp[eE,hc,hn,cu]
   simp[kE,hn,hbb]
  | true=>
   rw[hn] at h
   simp only[Bool.not_true] at h⊢
   by_cases h4:(l.length:Int)<4
   ·have hcut:iy l 4=([],[],false):=by unfold iy;rw[if_pos h4]
    rw[hcut] at h;simp at h
   have hcut:iy l 4=(l.take 4,l.drop 4,true):=by unfold iy;rw[if_neg h4];rfl
   rw[hcut]
   have hl4:∃b0 b1 b2 b3 r,l=b0::b1::b2::b3::r:=by
    match l,h4 with
    | b0::b1::b2::b3::r,_=>exact⟨_,_,_,_,_,rfl⟩
    | [],h=>simp at h
    | [_],h=>simp at h
    | [_,_],h=>simp at h
    | [_,_,_],h=>simp at h
   obtain⟨b0,b1,b2,b3,r,rfl⟩:=hl4
   refine⟨?_,?_⟩
   ·simp[eE,hc,hn,ry]
   simp[kE,hn,hbb,sw]
theorem sC (k:Nat):∀(r:List UInt8) (out res:List cn),eR k r out=(res,0)→out.length≤40→∃new,res=out++new∧dC new=r∧(∀o∈new,eE o=0)∧res.length≤40:=by
 induction k with
 | zero=>
  intro r out res h h40
  cases r with
  | nil=>simp[eR] at h;subst h;exact⟨[],by simp,by simp[dC],by simp,h40⟩
  | cons b r=>simp[eR] at h
 | succ k ih=>
  intro r out res h h40
  cases r with
  | nil=>simp[eR] at h;subst h;exact⟨[],by simp,by simp[dC],by simp,h40⟩
  | cons b r=>
   simp only[eR] at h
   split at h
   ·simp at h
   rename_i hok
   split at h
   ·simp at h
   rename_i h41
   obtain⟨h1,h2⟩:=sF b r (by simpa using hok)
   obtain⟨new,e1,e2,e3,e4⟩:=ih _ _ _ h (by simp at h41⊢;omega)
   refine⟨(fx b r).1::new,by rw[e1];simp,?_,?_,e4⟩
   ·rw[h2,←e2];simp[dC]
   intro o ho
   rcases List.mem_cons.1 ho with rfl | ho
   ·exact h1
   exact e3 o ho
theorem uh {l:List cn} (h:∀o∈l,eE o=0):ef l=0:=by
 induction l with
 | nil=>rfl
 | cons a l ih=>simp[ef,h a (by simp)];exact ih (fun o ho=>h o (by simp[ho]))
theorem sA (s:List UInt8) (h:(fb s).2=0):oF (fb s).1=(s,0):=by
 obtain⟨new,e1,e2,e3,e4⟩:=sC s.length s [] (fb s).1 (by rw[←h];rfl) (by simp)
 simp at e1
 subst e1
 have hc:d9 (fb s).1=0:=by unfold d9;rw[if_neg (by omega),uh e3]
 simp[oF,hc,e2]
theorem lb:∀(l out:List cn) (k:Nat),(∀o∈l,ju o.c=true∧(names o.c=true∨o.a=0)∧cu o.a=true)→out.length+l.length≤40→(dC l).length≤k→eR k (dC l) out=(out++l,0)
 | [],out,k,_,_,_=>by cases k <;> simp[dC,eR]
 | o::l,out,k,h,h40,hk=>by
  obtain⟨b,t,e1,e2⟩:=sx o (h o (by simp)) (dC l)
  have e3:dC (o::l)=b::(t++dC l):=by simp[dC,e1]
  rw[e3] at hk⊢
  cases k with
  | zero=>simp at hk
  | succ k=>
   have h41:(out.length == 40)=false:=by simp at h40⊢;omega
   simp only[eR,e2,h41]
   have:=lb l (out++ [o]) k (fun o ho=>h o (by simp[ho])) (by simp at h40⊢;omega) (by simp at hk;omega)
   simpa using this
end
section
def du (l:List (List Int)):Nat:=(l.map List.length).sum
def dz (b:List Int):Bool:=b.any fun n=>!cu n
def cK (l:List (List Int)):Int:=if 8<l.length∨40<du l then 2 else if l.any dz then 3 else 0
def fD (l:List (List Int)) (size:Int):Int:=if size<0 then 3 else if l.length=8∨40 - (du l:Int)<size then 7 else 0
def iL (l:List (List Int)) (size:Int):Int:=if cK l=0 then fD l size else cK l
def pV (l:List (List Int)) (size:Int):List (List Int):=if iL l size=0 then l++ [List.replicate size.toNat 0] else []
def wL (l:List (List Int)) (size:Int):Int:=if iL l size=0 then l.length+1 else 0
def blk (l:List (List Int)) (ref:Int):List Int:=l.getD (ref - 1).toNat []
def mU (l:List (List Int)) (ref at_:Int):Int:=if ref=0 then 5 else if ref<0∨(l.length:Int)<ref∨at_<0∨((blk l ref).length:Int)≤at_ then 3 else 0
def Fc (l:List (List Int)) (ref at_:Int):Int:=if cK l=0 then mU l ref at_ else cK l
def F5 (l:List (List Int)) (ref at_:Int):Int:=if Fc l ref at_=0 then (blk l ref).getD at_.toNat 0 else 0
def Ah (l:List (List Int)) (ref at_ n:Int):Int:=if mU l ref at_=0 then (if cu n then 0 else 3) else mU l ref at_
def rh (l:List (List Int)) (ref at_ n:Int):Int:=if cK l=0 then Ah l ref at_ n else cK l
def put (l:List (List Int)) (ref at_ n:Int):List (List Int):=l.set (ref - 1).toNat ((blk l ref).set at_.toNat n)
def ws (l:List (List Int)) (ref at_ n:Int):List (List Int):=if rh l ref at_ n=0 then put l ref at_ n else []
def jt (l:List (List Int)) (refs:List Int):Nat→List (List Int)
 | 0=> []
 | k+1=>jt l refs k++(if refs.contains ((k:Int)+1) then [l.getD k []] else [])
def Er (l:List (List Int)) (refs:List Int) (r:Int):Int:=if r=0 then 0 else (jt l refs r.toNat).length
def Bu (l:List (List Int)) (refs:List Int):Int:=if cK l=0 then (if refs.any (fun r=>decide (r<0) || decide ((l.length:Int)<r)) then 3 else 0) else cK l
def FN (l:List (List Int)) (refs:List Int):List (List Int):=if Bu l refs=0 then jt l refs l.length else []
def FM (l:List (List Int)) (refs:List Int):List Int:=if Bu l refs=0 then refs.map (Er l refs) else []
theorem kP (l:List (List Int)) (b:List Int):du (l++ [b])=du l+b.length:=by simp[du]
theorem e9 {α:Type} (l:List α) (k:Nat) (d:α) (h:k<l.length):l.take (k+1)=l.take k++ [l.getD k d]:=by
 rw[List.take_add_one,List.getElem?_eq_getElem h,List.getD_eq_getElem?_getD,List.getElem?_eq_getElem h];rfl
theorem vh (l:List (List Int)) (k:Nat) (h:k<l.length):du (l.take (k+1))=du (l.take k)+(l.getD k []).length:=by rw[e9 l k [] h,kP]
theorem xj {l:List (List Int)} {b:List Int} (h:b∈l):b.length≤du l:=by
 induction l with
 | nil=>cases h
 | cons c l ih=>
  simp only[du,List.map_cons,List.sum_cons] at *
  rcases List.mem_cons.1 h with rfl | h
  ·omega
  have:=ih h;omega
theorem gB {l:List (List Int)} (h:cK l=0):l.length≤8∧du l≤40:=by
 unfold cK at h
 split at h
 ·cases h
 omega
end
end Go.Proofs.YtpacloheigifkaaGreat
