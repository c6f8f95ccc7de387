/- Lemmas of one proof. -/
import Derived.Test.YthfkmcbblnbfaaaGreatDoorM0Q
import Derived.Lib.ItoaNum
import Derived.Lib.Join
import Derived.Lib.SplitLaws
import Derived.Lib.AtoiAllCases
import Derived.Test.YthfkmcbblnbfaaaGreatDoorM34Q

namespace Go.Proofs.YthfkmcbblnbfaaaGreatDoor
set_option maxRecDepth 100000
set_option maxHeartbeats 16000000
open Go.RowKit
section
theorem tM (u:Nat):Lib.decDigits u≠[]/\∀b∈Lib.decDigits u,48<=b.toNat/\b.toNat<=57:=by
 induction u using Nat.strongRecOn with
 | ind u ih=>
  rw[Lib.decDigits]
  have hd:∀k,k<10->48<=(UInt8.ofNat (48+k)).toNat/\(UInt8.ofNat (48+k)).toNat<=57:=fun k hk=>by
   rw[UInt8.toNat_ofNat',Nat.mod_eq_of_lt (by omega)];omega
  split
  ·rename_i h
   refine⟨by simp,fun b hb=>?_⟩
   rw[bN.1 hb]
   exact hd u h
  rename_i h
  have:=ih (u / 10) (by omega)
  refine⟨by simp,fun b hb=>?_⟩
  rcases cG.1 hb with hb | hb
  ·exact this.2 b hb
  rw[bN.1 hb]
  exact hd (u % 10) (by omega)
theorem DY {k:Nat} (h:k<10):(UInt8.ofNat (48+k)).toNat=48+k:=by rw[UInt8.toNat_ofNat',Nat.mod_eq_of_lt (by omega)]
theorem DE (c:UInt8):∀(l:List UInt8) (acc v:Nat),Lib.parseUint10 acc l= .ok v->Lib.parseUint10 acc (l++ [c])=Lib.parseUint10 v [c]
 | [],acc,v,h=>by
  simp only[Lib.parseUint10,Lib.NumEnd.ok.injEq] at h
  subst h
  rfl
 | b::l,acc,v,h=>by
  obtain⟨R,hR⟩:∃R,Lib.parseUint10 v [c]=R:=⟨_,rfl⟩
  rw[hR]
  simp only[dy,Lib.parseUint10] at h⊢
  split at h
  ·rename_i h1
   rw[if_pos h1]
   split at h
   ·cases h
   rename_i h2
   rw[if_neg h2]
   split at h
   ·cases h
   rename_i h3
   rw[if_neg h3,<-hR]
   exact DE c l _ v h
  cases h
theorem Gy (u:Nat) (hu:u<1000000000000000000):Lib.parseUint10 0 (Lib.decDigits u)= .ok u:=by
 induction u using Nat.strongRecOn with
 | ind u ih=>
  rw[Lib.decDigits]
  split
  ·rename_i h
   have:=DY h
   simp only[Lib.parseUint10,this]
   rw[if_pos (by omega),if_neg (by omega),if_neg (by omega)]
   congr 1
   omega
  rename_i h
  rw[DE _ _ _ _ (ih (u / 10) (by omega) (by omega))]
  have:=DY (k:=u % 10) (by omega)
  simp only[Lib.parseUint10,this]
  rw[if_pos (by omega),if_neg (by omega),if_neg (by omega)]
  congr 1
  omega
theorem H7 {n:Int} (h: -1000000000000000000<n/\n<1000000000000000000):Lib.atoiAll (Lib.itoa n)= .ok n:=by
 unfold Lib.itoa
 split
 ·rename_i hn
  have hd:=tM n.natAbs
  have hp:=Gy n.natAbs (by omega)
  unfold Lib.atoiAll
  simp only[show (45:UInt8).toNat=45 from rfl]
  rw[if_pos (show (45:Nat)=43\/True from .inr trivial)]
  unfold Lib.parseMag
  rw[if_neg hd.1,hp]
  simp only
  rw[if_neg (by simp),if_neg (fun h=>by have:=h.2;omega),if_pos trivial]
  congr 1
  omega
 rename_i hn
 have hd:=tM n.toNat
 have hp:=Gy n.toNat (by omega)
 cases e:Lib.decDigits n.toNat with
 | nil=>exact absurd e hd.1
 | cons c r=>
  rw[e] at hp
  have hc:=hd.2 c (by rw[e];simp)
  unfold Lib.atoiAll
  simp only
  rw[if_neg (show¬(c.toNat=43\/c.toNat=45) from by omega)]
  unfold Lib.parseMag
  rw[if_neg (by simp),hp]
  simp only
  rw[if_neg (by omega),if_neg (by omega),if_neg (by omega)]
  congr 1
  omega
def jK (w:List UInt8):Int:=match Lib.atoiAll w with
 | .ok v=>v
 | .range=>Lib.atoiSat w
 | _=>0
theorem nC {n:Int} (h:bB n=true):jK (Lib.itoa n)=n:=by
 unfold bB at h
 simp only[cY,decide_eq_true_eq] at h
 unfold jK
 rw[H7 (by omega)]
theorem qu (n:Int):(32:UInt8)∉Lib.itoa n:=by
 intro h
 unfold Lib.itoa at h
 split at h
 ·rcases dd.1 h with h | h
  ·cases h
  have:=(tM _).2 _ h
  have e:(32:UInt8).toNat=32:=rfl
  omega
 have:=(tM _).2 _ h
 have e:(32:UInt8).toNat=32:=rfl
 omega
def cN:List UInt8->List (List UInt8)
 | []=> [[]]
 | b::l=>if b=32 then []::cN l else match cN l with
  | []=> [[b]]
  | w::r=>(b::w)::r
theorem NP (s:List UInt8):cN s≠[]:=by
 cases s with
 | nil=>simp[cN]
 | cons b l=>
  unfold cN
  split
  ·simp
  split <;> simp
theorem zM {w:List UInt8} (h:(32:UInt8)∉w):cN w= [w]:=by
 induction w with
 | nil=>rfl
 | cons b l ih=>
  simp only[dd,not_or] at h
  unfold cN
  rw[if_neg (fun e=>h.1 e.symm),ih h.2]
theorem Dk {w:List UInt8} (h:(32:UInt8)∉w) (s:List UInt8):cN (w++32::s)=w::cN s:=by
 induction w with
 | nil=>simp[cN]
 | cons b l ih=>
  simp only[dd,not_or] at h
  rw[dy,cN,if_neg (fun e=>h.1 e.symm),ih h.2]
theorem Bj (x:List UInt8) {l:List (List UInt8)} (hl:l≠[]):Lib.join (x::l) [32]=x++32::Lib.join l [32]:=by
 cases l with
 | nil=>exact absurd rfl hl
 | cons y r=>simp[Lib.join,List.intercalate,List.intersperse]
theorem yb (x:List UInt8):Lib.join [x] [32]=x:=by simp[Lib.join,List.intercalate,List.intersperse]
theorem zN:∀{ws:List (List UInt8)},ws≠[]->(∀w∈ws,(32:UInt8)∉w)->cN (Lib.join ws [32])=ws
 | [],h,_=>absurd rfl h
 | [x],_,h=>by rw[yb,zM (h x (by simp))]
 | x::y::r,_,h=>by
  rw[Bj x (by simp),Dk (h x (by simp)),zN (by simp) fun w hw=>h w (List.mem_cons_of_mem _ hw)]
theorem AZ {s:List UInt8} {i:Nat} :Lib.occAt s [32] i=true↔s[i]? =some 32:=by
 unfold Lib.occAt
 cases h:s.drop i with
 | nil=>
  have:s[i]? =none:=by
   rw[List.getElem?_eq_none_iff]
   have:=congrArg List.length h
   rw[aE,aZ] at this
   omega
  simp[this]
 | cons b r=>
  have:s[i]? =some b:=by
   have:=congrArg (fun l=>l[0]?) h
   simpa using this
  rw[this]
  simp only[List.isPrefixOf,Bool.and_true,beq_iff_eq,aU]
  exact eq_comm
theorem vC:∀(k:Nat) (s:List UInt8),Lib.count s [32]<=k->Lib.splitK [32] 0 k s=cN s
 | k,s,hk=>by
  rcases Lib.index_spec s [32] with ⟨h1,h2⟩ | ⟨i,h1,h2,h3,h4⟩
  ·have hno:(32:UInt8)∉s:=fun hm=>by
    obtain⟨j,hj,e⟩:=db hm
    have:=h2 j (by omega)
    rw[Bool.eq_false_iff] at this
    exact this (AZ.2 (by rw[ap hj,e]))
   rw[zM hno]
   cases k with
   | zero=>rfl
   | succ k=>unfold Lib.splitK;rw[if_pos (by rw[h1];rfl)]
  have hc:=Lib.count_hit (s:=s) (sub:= [32]) (by simp) h1
  cases k with
  | zero=>omega
  | succ k=>
   have hi:=AZ.1 h3
   have hil:=(aN.1 hi).1
   have hsplit:s=s.take i++32::s.drop (i+1):=by
    conv=>lhs;rw[<-mE i s]
    congr 1
    rw[nk hil]
    congr 1
    exact eh ((ap hil).symm.trans hi)
   have hno:(32:UInt8)∉s.take i:=fun hm=>by
    obtain⟨j,hj,e⟩:=db hm
    rw[ax] at hj
    rw[List.getElem_take] at e
    have:=h4 j (by omega)
    have h5:Lib.occAt s [32] j=true:=AZ.2 (by rw[ap (by omega),e])
    rw[h5] at this
    cases this
   unfold Lib.splitK
   rw[if_neg (by rw[h1];simp),h1]
   simp only[bj,vm,aL]
   rw[vC k _ (by have: [(32:UInt8)].length=1:=rfl;rw[this] at hc;omega)]
   conv=>rhs;rw[hsplit]
   rw[Dk hno]
structure fa where
 S:Int
 T:Int
 depth:Int
 cells:Int
 out:List Int
 deriving DecidableEq
instance:Inhabited fa:=⟨⟨0,0,0,0,[]⟩⟩
def kr (r:fa):Int:=
 if bH r.S 0 3=false then 6
 else if bH r.T 0 5=false\/bH r.depth 0 6=false\/bH r.cells 0 40=false then 3
 else if 10<r.out.length then 2
 else if dR r.out=true then 3 else 0
def Dc:List UInt8:= [115,116,97,116,117,115]
def KB:List UInt8:= [116,114,97,112]
def FA:List UInt8:= [100,101,112,116,104]
def FB:List UInt8:= [99,101,108,108,115]
def uy:List UInt8:= [111,117,116]
def fe (r:fa):List (List UInt8):= [Dc,Lib.itoa r.S,KB,Lib.itoa r.T,FA,Lib.itoa r.depth,FB,Lib.itoa r.cells,uy]++r.out.map Lib.itoa
def iH (r:fa):List UInt8:=Lib.join (fe r) [32]
theorem IF (r:fa):∀w∈fe r,(32:UInt8)∉w:=fun w hw=>by
 unfold fe at hw
 rcases cG.1 hw with hw | hw
 ·simp only[dd,uw,or_false] at hw
  rcases hw with rfl | rfl | rfl | rfl | rfl | rfl | rfl | rfl | rfl
  ·decide
  ·exact qu _
  ·decide
  ·exact qu _
  ·decide
  ·exact qu _
  ·decide
  ·exact qu _
  decide
 obtain⟨n,_,rfl⟩:=oB.1 hw
 exact qu _
theorem IZ (r:fa):cN (iH r)=fe r:=zN (by simp[fe]) (IF r)
structure Cg (r:fa):Prop where
 s:bB r.S=true
 t:bB r.T=true
 d:bB r.depth=true
 c:bB r.cells=true
 o:∀n∈r.out,bB n=true
 l:r.out.length<=10
theorem qY {r:fa} (h:kr r=0):Cg r:=by
 have hi:∀{n k:Int},0<=k->k<=100->¬bH n 0 k=false->bB n=true:=fun {n k} h0 hk h=>by
  have:=cW.1 (by simpa using h)
  unfold bB
  simp only[cY,decide_eq_true_eq]
  omega
 unfold kr at h
 split at h
 ·cases h
 rename_i h1
 split at h
 ·cases h
 rename_i h2
 split at h
 ·cases h
 rename_i h3
 split at h
 ·cases h
 rename_i h4
 simp only[not_or] at h2
 refine⟨hi (by decide) (by decide) h1,hi (by decide) (by decide) h2.1,hi (by decide) (by decide) h2.2.1,hi (by decide) (by decide) h2.2.2,fun n hn=>?_,by omega⟩
 refine dF fun hno=>h4 ?_
 unfold dR
 exact cX.2 ⟨n,hn,by simpa using hno⟩
def qZ (ws:List (List UInt8)) (f:List UInt8->Int):fa:=⟨f (ws.getD 1 []),f (ws.getD 3 []),f (ws.getD 5 []),f (ws.getD 7 []),(ws.drop 9).map f⟩
theorem Cu {r:fa} (h:Cg r):qZ (fe r) jK=r:=by
 obtain⟨st,tr,d,c,o⟩:=r
 unfold qZ fe
 have:(o.map Lib.itoa).map jK=o:=by
  rw[List.map_map]
  conv=>rhs;rw[<-List.map_id o]
  exact List.map_congr_left fun n hn=>nC (h.o n hn)
 simp[nC h.s,nC h.t,nC h.d,nC h.c]
 simpa using this
def zd (s:List UInt8):fa×Int:=if (cN s).length<9\/19<(cN s).length then (default,1) else if kr (qZ (cN s) jK)≠0\/iH (qZ (cN s) jK)≠s then (default,1) else (qZ (cN s) jK,0)
theorem Jj {s:List UInt8} {r:fa} (h1:kr r=0) (h2:iH r=s):zd s=(r,0):=by
 have hi:=qY h1
 have hw:cN s=fe r:=by rw[<-h2];exact IZ r
 have hl:=hi.l
 unfold zd
 rw[hw,Cu hi,if_neg (by simp[fe];omega),if_neg (by simp[h1,h2])]
end
