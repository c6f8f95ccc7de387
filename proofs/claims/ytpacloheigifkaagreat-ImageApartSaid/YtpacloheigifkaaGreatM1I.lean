/- Texts of one proof, one behind the other: lemmas alone. -/

namespace Go.Proofs.YtpacloheigifkaaGreat
section
structure cc where
 c:Int
 a:Int
instance:Inhabited cc:=⟨⟨0,0⟩⟩
instance:DecidableEq cc:=fun x y=>decidable_of_iff (x.c=y.c∧x.a=y.a) ⟨fun⟨h1,h2⟩=>by cases x;cases y;simp_all,fun h=>by simp[h]⟩
def names (c:Int):Bool:=decide (c=1) || (decide (c=8) || (decide (c=9) || (decide (c=10) || (decide (c=11) || decide (c=12)))))
def jV (c:Int):Bool:=decide (1≤c) && decide (c≤21)
def cF (n:Int):Bool:=decide (-2147483648≤n) && decide (n≤2147483647)
def d9 (o:cc):Int:=if !jV o.c then 6 else if !names o.c && o.a != 0 then 1 else if !cF o.a then 3 else 0
def ia (n:Int):Int:=(n+2147483648) % 4294967296 - 2147483648
def da (n:Int):List UInt8:=
 [UInt8.ofNat (n % 4294967296 / 16777216).toNat,UInt8.ofNat (n % 4294967296 / 65536 % 256).toNat,UInt8.ofNat (n % 4294967296 / 256 % 256).toNat,UInt8.ofNat (n % 256).toNat]
def jq (l:List UInt8):Int:=l.foldl (fun u c=>(u*256+c.toNat) % 4294967296) 0
def dr (l:List UInt8):Int:=ia (jq l)
def eh:List cc→Int
 | []=>0
 | o::l=>if d9 o != 0 then d9 o else eh l
def d8 (l:List cc):Int:=if l.length > 40 then 2 else eh l
def ln (o:cc):List UInt8:=UInt8.ofNat (o.c % 256).toNat::(if names o.c then da o.a else [])
def dq (l:List cc):List UInt8:=l.flatMap ln
def pI (l:List cc):List UInt8×Int:=if d8 l != 0 then ([],d8 l) else (dq l,0)
def fQ (l:List UInt8) (n:Int):List UInt8×List UInt8×Bool:=if (l.length:Int)<n then ([],[],false) else (l.take n.toNat,l.drop n.toNat,true)
def fN (b:UInt8) (l:List UInt8):cc×List UInt8×Bool:=
 if !jV b.toNat then (⟨b.toNat,0⟩,l,false) else if !names b.toNat then (⟨b.toNat,0⟩,l,true) else
 (⟨b.toNat,if (fQ l 4).2.2 then dr (fQ l 4).1 else 0⟩,(fQ l 4).2.1,(fQ l 4).2.2)
def fg:Nat→List UInt8→List cc→List cc×Int
 | _,[],out=>(out,0)
 | 0,_::_,_=>([],1)
 | k+1,b::l,out=>
  if !(fN b l).2.2 then ([],1) else if out.length == 40 then ([],2) else fg k (fN b l).2.1 (out++ [(fN b l).1])
def fB (l:List UInt8):List cc×Int:=fg l.length l []
end
section
theorem iM (n:Nat) (h:n<256):(UInt8.ofNat n).toNat=n:=by simp[UInt8.toNat_ofNat'];omega
theorem o4 (a:Int) (h:cF a=true):dr (da a)=a:=by
 simp[cF] at h
 have e0:=iM (a % 4294967296 / 16777216).toNat (by omega)
 have e1:=iM (a % 4294967296 / 65536 % 256).toNat (by omega)
 have e2:=iM (a % 4294967296 / 256 % 256).toNat (by omega)
 have e3:=iM (a % 256).toNat (by omega)
 simp only[dr,da,jq,List.foldl_cons,List.foldl_nil,e0,e1,e2,e3,ia]
 omega
theorem o5 (b0 b1 b2 b3:UInt8):da (dr [b0,b1,b2,b3])= [b0,b1,b2,b3]:=by
 have h0:=b0.toNat_lt
 have h1:=b1.toNat_lt
 have h2:=b2.toNat_lt
 have h3:=b3.toNat_lt
 have key:∀(b:UInt8) (n:Int),n=b.toNat→UInt8.ofNat n.toNat=b:=by
  intro b n h;subst h;simp
 have hn:dr [b0,b1,b2,b3] % 4294967296=((((b0.toNat:Int)*256+b1.toNat)*256+b2.toNat)*256+b3.toNat):=by
  simp only[dr,jq,List.foldl_cons,List.foldl_nil,ia];omega
 generalize dr [b0,b1,b2,b3]=n at *
 rw[da,key b0 (n % 4294967296 / 16777216) (by omega),key b1 (n % 4294967296 / 65536 % 256) (by omega),key b2 (n % 4294967296 / 256 % 256) (by omega),key b3 (n % 256) (by omega)]
theorem nY (l:List UInt8):cF (dr l)=true:=by
 have h: -2147483648≤dr l∧dr l≤2147483647:=by unfold dr ia;omega
 simp[cF,h.1,h.2]
theorem uA (o:cc) (h:jV o.c=true∧(names o.c=true∨o.a=0)∧cF o.a=true) (r:List UInt8) :
  ∃b t,ln o=b::t∧fN b (t++r)=(o,r,true):=by
 obtain⟨hc,hn,hi⟩:=h
 have hcc:=hc
 simp[jV] at hcc
 have hb:((UInt8.ofNat (o.c % 256).toNat).toNat:Int)=o.c:=by rw[iM _ (by omega)];omega
 refine⟨_,_,rfl,?_⟩
 obtain⟨c,a⟩:=o
 simp only at hc hn hi hb⊢
 unfold fN
 rw[hb,hc]
 cases hnn:names c with
 | false=>
  have:a=0:=by
   rcases hn with h | h;· rw[h] at hnn;cases hnn
   ·exact h
  subst this
  simp
 | true=>
  have h4:¬((da a++r).length:Int)<4:=by simp[da];omega
  have ht:(da a++r).take 4=da a:=by simp[da]
  have hd:(da a++r).drop 4=r:=by simp[da]
  have hcut:fQ (da a++r) 4=(da a,r,true):=by
   unfold fQ;rw[if_neg h4]
   show ((da a++r).take 4,(da a++r).drop 4,true)=_
   rw[ht,hd]
  simp[hcut,o4 a hi]
theorem uH (b:UInt8) (l:List UInt8) (h:(fN b l).2.2=true):d9 (fN b l).1=0∧b::l=ln (fN b l).1++(fN b l).2.1:=by
 have hb8:=b.toNat_lt
 have hbb:UInt8.ofNat ((b.toNat:Int) % 256).toNat=b:=by
  rw[show ((b.toNat:Int) % 256).toNat=b.toNat from by omega];simp
 unfold fN at h⊢
 cases hc:jV b.toNat with
 | false=>rw[hc] at h;simp at h
 | true=>
  rw[hc] at h
  cases hn:names b.toNat with
  | false=>
   simp only[Bool.not_true,Bool.not_false,if_true]
   refine⟨?_,?_⟩
   ·simp[d9,hc,hn,cF]
   simp[ln,hn,hbb]
  | true=>
   rw[hn] at h
   simp only[Bool.not_true] at h⊢
   by_cases h4:(l.length:Int)<4
   ·have hcut:fQ l 4=([],[],false):=by unfold fQ;rw[if_pos h4]
    rw[hcut] at h;simp at h
   have hcut:fQ l 4=(l.take 4,l.drop 4,true):=by unfold fQ;rw[if_neg h4];rfl
   rw[hcut]
   have hl4:∃b0 b1 b2 b3 r,l=b0::b1::b2::b3::r:=by
    match l,h4 with
    | b0::b1::b2::b3::r,_=>exact⟨_,_,_,_,_,rfl⟩
    | [],h=>simp at h
    | [_],h=>simp at h
    | [_,_],h=>simp at h
    | [_,_,_],h=>simp at h
   obtain⟨b0,b1,b2,b3,r,rfl⟩:=hl4
   refine⟨?_,?_⟩
   ·simp[d9,hc,hn,nY]
   simp[ln,hn,hbb,o5]
theorem uE (k:Nat):∀(r:List UInt8) (out res:List cc),fg k r out=(res,0)→out.length≤40→∃new,res=out++new∧dq new=r∧(∀o∈new,d9 o=0)∧res.length≤40:=by
 induction k with
 | zero=>
  intro r out res h h40
  cases r with
  | nil=>simp[fg] at h;subst h;exact⟨[],by simp[],by simp[dq],by simp,h40⟩
  | cons b r=>simp[fg] at h
 | succ k ih=>
  intro r out res h h40
  cases r with
  | nil=>simp[fg] at h;subst h;exact⟨[],by simp[],by simp[dq],by simp,h40⟩
  | cons b r=>
   simp only[fg] at h
   split at h
   ·simp at h
   rename_i hok
   split at h
   ·simp at h
   rename_i h41
   obtain⟨h1,h2⟩:=uH b r (by simpa using hok)
   obtain⟨new,e1,e2,e3,e4⟩:=ih _ _ _ h (by simp at h41⊢;omega)
   refine⟨(fN b r).1::new,by rw[e1];simp,?_,?_,e4⟩
   ·rw[h2,←e2];simp[dq]
   intro o ho
   rcases List.mem_cons.1 ho with rfl | ho
   ·exact h1
   exact e3 o ho
theorem ws {l:List cc} (h:∀o∈l,d9 o=0):eh l=0:=by
 induction l with
 | nil=>rfl
 | cons a l ih=>simp[eh,h a (by simp)];exact ih (fun o ho=>h o (by simp[ho]))
theorem uC (s:List UInt8) (h:(fB s).2=0):pI (fB s).1=(s,0):=by
 obtain⟨new,e1,e2,e3,e4⟩:=uE s.length s [] (fB s).1 (by rw[←h];rfl) (by simp)
 simp at e1
 subst e1
 have hc:d8 (fB s).1=0:=by unfold d8;rw[if_neg (by omega),ws e3]
 simp[pI,hc,e2]
theorem lJ:∀(l out:List cc) (k:Nat),(∀o∈l,jV o.c=true∧(names o.c=true∨o.a=0)∧cF o.a=true)→out.length+l.length≤40→(dq l).length≤k→fg k (dq l) out=(out++l,0)
 | [],out,k,_,_,_=>by cases k <;> simp[dq,fg]
 | o::l,out,k,h,h40,hk=>by
  obtain⟨b,t,e1,e2⟩:=uA o (h o (by simp)) (dq l)
  have e3:dq (o::l)=b::(t++dq l):=by simp[dq,e1]
  rw[e3] at hk⊢
  cases k with
  | zero=>simp at hk
  | succ k=>
   have h41:(out.length == 40)=false:=by simp at h40⊢;omega
   simp only[fg,e2,h41]
   have:=lJ l (out++ [o]) k (fun o ho=>h o (by simp[ho])) (by simp at h40⊢;omega) (by simp at hk;omega)
   simpa using this
end
section
def dg (l:List (List Int)):Nat:=(l.map List.length).sum
def dk (b:List Int):Bool:=b.any fun n=>!cF n
def cI (l:List (List Int)):Int:=if 8<l.length∨40<dg l then 2 else if l.any dk then 3 else 0
def kM (l:List (List Int)) (size:Int):Int:=if size<0 then 3 else if l.length=8∨40 - (dg l:Int)<size then 7 else 0
def jh (l:List (List Int)) (size:Int):Int:=if cI l=0 then kM l size else cI l
def rh (l:List (List Int)) (size:Int):List (List Int):=if jh l size=0 then l++ [List.replicate size.toNat 0] else []
def yT (l:List (List Int)) (size:Int):Int:=if jh l size=0 then l.length+1 else 0
def blk (l:List (List Int)) (ref:Int):List Int:=l.getD (ref - 1).toNat []
def nQ (l:List (List Int)) (ref at_:Int):Int:=if ref=0 then 5 else if ref<0∨(l.length:Int)<ref∨at_<0∨((blk l ref).length:Int)≤at_ then 3 else 0
def HS (l:List (List Int)) (ref at_:Int):Int:=if cI l=0 then nQ l ref at_ else cI l
def IF (l:List (List Int)) (ref at_:Int):Int:=if HS l ref at_=0 then (blk l ref).getD at_.toNat 0 else 0
def CL (l:List (List Int)) (ref at_ n:Int):Int:=if nQ l ref at_=0 then (if cF n then 0 else 3) else nQ l ref at_
def s8 (l:List (List Int)) (ref at_ n:Int):Int:=if cI l=0 then CL l ref at_ n else cI l
def put (l:List (List Int)) (ref at_ n:Int):List (List Int):=l.set (ref - 1).toNat ((blk l ref).set at_.toNat n)
def yz (l:List (List Int)) (ref at_ n:Int):List (List Int):=if s8 l ref at_ n=0 then put l ref at_ n else []
def dI (l:List (List Int)) (refs:List Int):Nat→List (List Int)
 | 0=> []
 | k+1=>dI l refs k++(if refs.contains ((k:Int)+1) then [l.getD k []] else [])
def ft (l:List (List Int)) (refs:List Int) (r:Int):Int:=if r=0 then 0 else (dI l refs r.toNat).length
def DU (l:List (List Int)) (refs:List Int):Int:=if cI l=0 then (if refs.any (fun r=>decide (r<0) || decide ((l.length:Int)<r)) then 3 else 0) else cI l
def Im (l:List (List Int)) (refs:List Int):List (List Int):=if DU l refs=0 then dI l refs l.length else []
def Il (l:List (List Int)) (refs:List Int):List Int:=if DU l refs=0 then refs.map (ft l refs) else []
theorem lC (l:List (List Int)) (b:List Int):dg (l++ [b])=dg l+b.length:=by simp[dg]
theorem fx {α:Type} (l:List α) (k:Nat) (d:α) (h:k<l.length):l.take (k+1)=l.take k++ [l.getD k d]:=by
 rw[List.take_add_one,List.getElem?_eq_getElem h,List.getD_eq_getElem?_getD,List.getElem?_eq_getElem h];rfl
theorem xy (l:List (List Int)) (k:Nat) (h:k<l.length):dg (l.take (k+1))=dg (l.take k)+(l.getD k []).length:=by rw[fx l k [] h,lC]
theorem zq {l:List (List Int)} {b:List Int} (h:b∈l):b.length≤dg l:=by
 induction l with
 | nil=>cases h
 | cons c l ih=>
  simp only[dg,List.map_cons,List.sum_cons] at *
  rcases List.mem_cons.1 h with rfl | h
  ·omega
  have:=ih h;omega
theorem kB {l:List (List Int)} (h:cI l=0):l.length≤8∧dg l≤40:=by
 unfold cI at h
 split at h
 ·cases h
 omega
end
end Go.Proofs.YtpacloheigifkaaGreat
