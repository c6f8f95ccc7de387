/- Texts of one proof, one behind the other: lemmas alone. -/

namespace Go.Proofs.YtpacloheigifkaaGreat
section
structure bT where
 c:Int
 a:Int
instance:Inhabited bT:=⟨⟨0,0⟩⟩
instance:DecidableEq bT:=fun x y=>decidable_of_iff (x.c=y.c∧x.a=y.a) ⟨fun⟨h1,h2⟩=>by cases x;cases y;simp_all,fun h=>by simp[h]⟩
def names (c:Int):Bool:=decide (c=1) || (decide (c=8) || (decide (c=9) || (decide (c=10) || (decide (c=11) || decide (c=12)))))
def i8 (c:Int):Bool:=decide (1≤c) && decide (c≤21)
def cH (n:Int):Bool:=decide (-2147483648≤n) && decide (n≤2147483647)
def df (o:bT):Int:=if !i8 o.c then 6 else if !names o.c && o.a != 0 then 1 else if !cH o.a then 3 else 0
def gT (n:Int):Int:=(n+2147483648) % 4294967296 - 2147483648
def ef (n:Int):List UInt8:=
 [UInt8.ofNat (n % 4294967296 / 16777216).toNat,UInt8.ofNat (n % 4294967296 / 65536 % 256).toNat,UInt8.ofNat (n % 4294967296 / 256 % 256).toNat,UInt8.ofNat (n % 256).toNat]
def yB (l:List UInt8):Int:=l.foldl (fun u c=>(u*256+c.toNat) % 4294967296) 0
def fK (l:List UInt8):Int:=gT (yB l)
def dV:List bT→Int
 | []=>0
 | o::l=>if df o != 0 then df o else dV l
def dQ (l:List bT):Int:=if l.length > 40 then 2 else dV l
def j5 (o:bT):List UInt8:=UInt8.ofNat (o.c % 256).toNat::(if names o.c then ef o.a else [])
def dt (l:List bT):List UInt8:=l.flatMap j5
def nE (l:List bT):List UInt8×Int:=if dQ l != 0 then ([],dQ l) else (dt l,0)
def hZ (l:List UInt8) (n:Int):List UInt8×List UInt8×Bool:=if (l.length:Int)<n then ([],[],false) else (l.take n.toNat,l.drop n.toNat,true)
def e9 (b:UInt8) (l:List UInt8):bT×List UInt8×Bool:=
 if !i8 b.toNat then (⟨b.toNat,0⟩,l,false) else if !names b.toNat then (⟨b.toNat,0⟩,l,true) else
 (⟨b.toNat,if (hZ l 4).2.2 then fK (hZ l 4).1 else 0⟩,(hZ l 4).2.1,(hZ l 4).2.2)
def eB:Nat→List UInt8→List bT→List bT×Int
 | _,[],out=>(out,0)
 | 0,_::_,_=>([],1)
 | k+1,b::l,out=>
  if !(e9 b l).2.2 then ([],1) else if out.length == 40 then ([],2) else eB k (e9 b l).2.1 (out++ [(e9 b l).1])
def eM (l:List UInt8):List bT×Int:=eB l.length l []
end
section
theorem gL (n:Nat) (h:n<256):(UInt8.ofNat n).toNat=n:=by simp[UInt8.toNat_ofNat'];omega
theorem rp (a:Int) (h:cH a=true):fK (ef a)=a:=by
 simp[cH] at h
 have e0:=gL (a % 4294967296 / 16777216).toNat (by omega)
 have e1:=gL (a % 4294967296 / 65536 % 256).toNat (by omega)
 have e2:=gL (a % 4294967296 / 256 % 256).toNat (by omega)
 have e3:=gL (a % 256).toNat (by omega)
 simp only[fK,ef,yB,List.foldl_cons,List.foldl_nil,e0,e1,e2,e3,gT]
 omega
theorem rr (b0 b1 b2 b3:UInt8):ef (fK [b0,b1,b2,b3])= [b0,b1,b2,b3]:=by
 have h0:=b0.toNat_lt
 have h1:=b1.toNat_lt
 have h2:=b2.toNat_lt
 have h3:=b3.toNat_lt
 have key:∀(b:UInt8) (n:Int),n=b.toNat→UInt8.ofNat n.toNat=b:=by
  intro b n h;subst h;simp
 have hn:fK [b0,b1,b2,b3] % 4294967296=((((b0.toNat:Int)*256+b1.toNat)*256+b2.toNat)*256+b3.toNat):=by
  simp only[fK,yB,List.foldl_cons,List.foldl_nil,gT];omega
 generalize fK [b0,b1,b2,b3]=n at *
 rw[ef,key b0 (n % 4294967296 / 16777216) (by omega),key b1 (n % 4294967296 / 65536 % 256) (by omega),key b2 (n % 4294967296 / 256 % 256) (by omega),key b3 (n % 256) (by omega)]
theorem qF (l:List UInt8):cH (fK l)=true:=by
 have h: -2147483648≤fK l∧fK l≤2147483647:=by unfold fK gT;omega
 simp[cH,h.1,h.2]
theorem rs (o:bT) (h:i8 o.c=true∧(names o.c=true∨o.a=0)∧cH o.a=true) (r:List UInt8) :
  ∃b t,j5 o=b::t∧e9 b (t++r)=(o,r,true):=by
 obtain⟨hc,hn,hi⟩:=h
 have hcc:=hc
 simp[i8] at hcc
 have hb:((UInt8.ofNat (o.c % 256).toNat).toNat:Int)=o.c:=by rw[gL _ (by omega)];omega
 refine⟨_,_,rfl,?_⟩
 obtain⟨c,a⟩:=o
 simp only at hc hn hi hb⊢
 unfold e9
 rw[hb,hc]
 cases hnn:names c with
 | false=>
  have:a=0:=by
   rcases hn with h | h;· rw[h] at hnn;cases hnn
   ·exact h
  subst this
  simp
 | true=>
  have h4:¬((ef a++r).length:Int)<4:=by simp[ef];omega
  have ht:(ef a++r).take 4=ef a:=by simp[ef]
  have hd:(ef a++r).drop 4=r:=by simp[ef]
  have hcut:hZ (ef a++r) 4=(ef a,r,true):=by
   unfold hZ;rw[if_neg h4]
   show ((ef a++r).take 4,(ef a++r).drop 4,true)=_
   rw[ht,hd]
  simp[hcut,rp a hi]
theorem rC (b:UInt8) (l:List UInt8) (h:(e9 b l).2.2=true):df (e9 b l).1=0∧b::l=j5 (e9 b l).1++(e9 b l).2.1:=by
 have hb8:=b.toNat_lt
 have hbb:UInt8.ofNat ((b.toNat:Int) % 256).toNat=b:=by
  rw[show ((b.toNat:Int) % 256).toNat=b.toNat from by omega];simp
 unfold e9 at h⊢
 cases hc:i8 b.toNat with
 | false=>rw[hc] at h;simp at h
 | true=>
  rw[hc] at h
  cases hn:names b.toNat with
  | false=>
   simp only[Bool.not_true,Bool.not_false,if_true]
   refine⟨?_,?_⟩
   ·simp[df,hc,hn,cH]
   simp[j5,hn,hbb]
  | true=>
   rw[hn] at h
   simp only[Bool.not_true] at h⊢
   by_cases h4:(l.length:Int)<4
   ·have hcut:hZ l 4=([],[],false):=by unfold hZ;rw[if_pos h4]
    rw[hcut] at h;simp at h
   have hcut:hZ l 4=(l.take 4,l.drop 4,true):=by unfold hZ;rw[if_neg h4];rfl
   rw[hcut]
   have hl4:∃b0 b1 b2 b3 r,l=b0::b1::b2::b3::r:=by
    match l,h4 with
    | b0::b1::b2::b3::r,_=>exact⟨_,_,_,_,_,rfl⟩
    | [],h=>simp at h
    | [_],h=>simp at h
    | [_,_],h=>simp at h
    | [_,_,_],h=>simp at h
   obtain⟨b0,b1,b2,b3,r,rfl⟩:=hl4
   refine⟨?_,?_⟩
   ·simp[df,hc,hn,qF]
   simp[j5,hn,hbb,rr]
theorem ry (k:Nat):∀(r:List UInt8) (out res:List bT),eB k r out=(res,0)→out.length≤40→∃new,res=out++new∧dt new=r∧(∀o∈new,df o=0)∧res.length≤40:=by
 induction k with
 | zero=>
  intro r out res h h40
  cases r with
  | nil=>simp[eB] at h;subst h;exact⟨[],by simp[],by simp[dt],by simp,h40⟩
  | cons b r=>simp[eB] at h
 | succ k ih=>
  intro r out res h h40
  cases r with
  | nil=>simp[eB] at h;subst h;exact⟨[],by simp[],by simp[dt],by simp,h40⟩
  | cons b r=>
   simp only[eB] at h
   split at h
   ·simp at h
   rename_i hok
   split at h
   ·simp at h
   rename_i h41
   obtain⟨h1,h2⟩:=rC b r (by simpa using hok)
   obtain⟨new,e1,e2,e3,e4⟩:=ih _ _ _ h (by simp at h41⊢;omega)
   refine⟨(e9 b r).1::new,by rw[e1];simp,?_,?_,e4⟩
   ·rw[h2,←e2];simp[dt]
   intro o ho
   rcases List.mem_cons.1 ho with rfl | ho
   ·exact h1
   exact e3 o ho
theorem sS {l:List bT} (h:∀o∈l,df o=0):dV l=0:=by
 induction l with
 | nil=>rfl
 | cons a l ih=>simp[dV,h a (by simp)];exact ih (fun o ho=>h o (by simp[ho]))
theorem ru (s:List UInt8) (h:(eM s).2=0):nE (eM s).1=(s,0):=by
 obtain⟨new,e1,e2,e3,e4⟩:=ry s.length s [] (eM s).1 (by rw[←h];rfl) (by simp)
 simp at e1
 subst e1
 have hc:dQ (eM s).1=0:=by unfold dQ;rw[if_neg (by omega),sS e3]
 simp[nE,hc,e2]
theorem kw:∀(l out:List bT) (k:Nat),(∀o∈l,i8 o.c=true∧(names o.c=true∨o.a=0)∧cH o.a=true)→out.length+l.length≤40→(dt l).length≤k→eB k (dt l) out=(out++l,0)
 | [],out,k,_,_,_=>by cases k <;> simp[dt,eB]
 | o::l,out,k,h,h40,hk=>by
  obtain⟨b,t,e1,e2⟩:=rs o (h o (by simp)) (dt l)
  have e3:dt (o::l)=b::(t++dt l):=by simp[dt,e1]
  rw[e3] at hk⊢
  cases k with
  | zero=>simp at hk
  | succ k=>
   have h41:(out.length == 40)=false:=by simp at h40⊢;omega
   simp only[eB,e2,h41]
   have:=kw l (out++ [o]) k (fun o ho=>h o (by simp[ho])) (by simp at h40⊢;omega) (by simp at hk;omega)
   simpa using this
end
section
def de (l:List (List Int)):Nat:=(l.map List.length).sum
def dk (b:List Int):Bool:=b.any fun n=>!cH n
def cC (l:List (List Int)):Int:=if 8<l.length∨40<de l then 2 else if l.any dk then 3 else 0
def fg (l:List (List Int)) (size:Int):Int:=if size<0 then 3 else if l.length=8∨40 - (de l:Int)<size then 7 else 0
def is (l:List (List Int)) (size:Int):Int:=if cC l=0 then fg l size else cC l
def o6 (l:List (List Int)) (size:Int):List (List Int):=if is l size=0 then l++ [List.replicate size.toNat 0] else []
def vp (l:List (List Int)) (size:Int):Int:=if is l size=0 then l.length+1 else 0
def blk (l:List (List Int)) (ref:Int):List Int:=l.getD (ref - 1).toNat []
def mg (l:List (List Int)) (ref at_:Int):Int:=if ref=0 then 5 else if ref<0∨(l.length:Int)<ref∨at_<0∨((blk l ref).length:Int)≤at_ then 3 else 0
def Dy (l:List (List Int)) (ref at_:Int):Int:=if cC l=0 then mg l ref at_ else cC l
def Ef (l:List (List Int)) (ref at_:Int):Int:=if Dy l ref at_=0 then (blk l ref).getD at_.toNat 0 else 0
def yu (l:List (List Int)) (ref at_ n:Int):Int:=if mg l ref at_=0 then (if cH n then 0 else 3) else mg l ref at_
def qs (l:List (List Int)) (ref at_ n:Int):Int:=if cC l=0 then yu l ref at_ n else cC l
def put (l:List (List Int)) (ref at_ n:Int):List (List Int):=l.set (ref - 1).toNat ((blk l ref).set at_.toNat n)
def u9 (l:List (List Int)) (ref at_ n:Int):List (List Int):=if qs l ref at_ n=0 then put l ref at_ n else []
def i7 (l:List (List Int)) (refs:List Int):Nat→List (List Int)
 | 0=> []
 | k+1=>i7 l refs k++(if refs.contains ((k:Int)+1) then [l.getD k []] else [])
def CS (l:List (List Int)) (refs:List Int) (r:Int):Int:=if r=0 then 0 else (i7 l refs r.toNat).length
def zw (l:List (List Int)) (refs:List Int):Int:=if cC l=0 then (if refs.any (fun r=>decide (r<0) || decide ((l.length:Int)<r)) then 3 else 0) else cC l
def D3 (l:List (List Int)) (refs:List Int):List (List Int):=if zw l refs=0 then i7 l refs l.length else []
def D2 (l:List (List Int)) (refs:List Int):List Int:=if zw l refs=0 then refs.map (CS l refs) else []
theorem kc (l:List (List Int)) (b:List Int):de (l++ [b])=de l+b.length:=by simp[de]
theorem fb {α:Type} (l:List α) (k:Nat) (d:α) (h:k<l.length):l.take (k+1)=l.take k++ [l.getD k d]:=by
 rw[List.take_add_one,List.getElem?_eq_getElem h,List.getD_eq_getElem?_getD,List.getElem?_eq_getElem h];rfl
theorem t5 (l:List (List Int)) (k:Nat) (h:k<l.length):de (l.take (k+1))=de (l.take k)+(l.getD k []).length:=by rw[fb l k [] h,kc]
theorem vS {l:List (List Int)} {b:List Int} (h:b∈l):b.length≤de l:=by
 induction l with
 | nil=>cases h
 | cons c l ih=>
  simp only[de,List.map_cons,List.sum_cons] at *
  rcases List.mem_cons.1 h with rfl | h
  ·omega
  have:=ih h;omega
theorem fU {l:List (List Int)} (h:cC l=0):l.length≤8∧de l≤40:=by
 unfold cC at h
 split at h
 ·cases h
 omega
end
end Go.Proofs.YtpacloheigifkaaGreat
