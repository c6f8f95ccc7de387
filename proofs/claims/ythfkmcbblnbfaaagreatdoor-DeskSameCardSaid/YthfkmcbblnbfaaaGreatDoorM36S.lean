/- Lemmas of one proof. -/
import Derived.Test.YthfkmcbblnbfaaaGreatDoorM0S
import Derived.Lib.ItoaNum
import Derived.Lib.Join
import Derived.Lib.SplitLaws
import Derived.Lib.AtoiAllCases
import Derived.Test.YthfkmcbblnbfaaaGreatDoorM34S

namespace Go.Proofs.YthfkmcbblnbfaaaGreatDoor
set_option maxRecDepth 100000
set_option maxHeartbeats 16000000
open Go.RowKit
section
theorem tP (u:Nat):Lib.decDigits u≠[]/\∀b∈Lib.decDigits u,48<=b.toNat/\b.toNat<=57:=by
 induction u using Nat.strongRecOn with
 | ind u ih=>
  rw[Lib.decDigits]
  have hd:∀k,k<10->48<=(UInt8.ofNat (48+k)).toNat/\(UInt8.ofNat (48+k)).toNat<=57:=fun k hk=>by
   rw[UInt8.toNat_ofNat',Nat.mod_eq_of_lt (by omega)];omega
  split
  ·rename_i h
   refine⟨by simp,fun b hb=>?_⟩
   rw[bK.1 hb]
   exact hd u h
  rename_i h
  have:=ih (u / 10) (by omega)
  refine⟨by simp,fun b hb=>?_⟩
  rcases cD.1 hb with hb | hb
  ·exact this.2 b hb
  rw[bK.1 hb]
  exact hd (u % 10) (by omega)
theorem D5 {k:Nat} (h:k<10):(UInt8.ofNat (48+k)).toNat=48+k:=by rw[UInt8.toNat_ofNat',Nat.mod_eq_of_lt (by omega)]
theorem DM (c:UInt8):∀(l:List UInt8) (acc v:Nat),Lib.parseUint10 acc l= .ok v->Lib.parseUint10 acc (l++ [c])=Lib.parseUint10 v [c]
 | [],acc,v,h=>by
  simp only[Lib.parseUint10,Lib.NumEnd.ok.injEq] at h
  subst h
  rfl
 | b::l,acc,v,h=>by
  obtain⟨R,hR⟩:∃R,Lib.parseUint10 v [c]=R:=⟨_,rfl⟩
  rw[hR]
  simp only[dt,Lib.parseUint10] at h⊢
  split at h
  ·rename_i h1
   rw[if_pos h1]
   split at h
   ·cases h
   rename_i h2
   rw[if_neg h2]
   split at h
   ·cases h
   rename_i h3
   rw[if_neg h3,<-hR]
   exact DM c l _ v h
  cases h
theorem GO (u:Nat) (hu:u<1000000000000000000):Lib.parseUint10 0 (Lib.decDigits u)= .ok u:=by
 induction u using Nat.strongRecOn with
 | ind u ih=>
  rw[Lib.decDigits]
  split
  ·rename_i h
   have:=D5 h
   simp only[Lib.parseUint10,this]
   rw[if_pos (by omega),if_neg (by omega),if_neg (by omega)]
   congr 1
   omega
  rename_i h
  rw[DM _ _ _ _ (ih (u / 10) (by omega) (by omega))]
  have:=D5 (k:=u % 10) (by omega)
  simp only[Lib.parseUint10,this]
  rw[if_pos (by omega),if_neg (by omega),if_neg (by omega)]
  congr 1
  omega
theorem Im {n:Int} (h: -1000000000000000000<n/\n<1000000000000000000):Lib.atoiAll (Lib.itoa n)= .ok n:=by
 unfold Lib.itoa
 split
 ·rename_i hn
  have hd:=tP n.natAbs
  have hp:=GO n.natAbs (by omega)
  unfold Lib.atoiAll
  simp only[show (45:UInt8).toNat=45 from rfl]
  rw[if_pos (show (45:Nat)=43\/True from .inr trivial)]
  unfold Lib.parseMag
  rw[if_neg hd.1,hp]
  simp only
  rw[if_neg (by simp),if_neg (fun h=>by have:=h.2;omega),if_pos trivial]
  congr 1
  omega
 rename_i hn
 have hd:=tP n.toNat
 have hp:=GO n.toNat (by omega)
 cases e:Lib.decDigits n.toNat with
 | nil=>exact absurd e hd.1
 | cons c r=>
  rw[e] at hp
  have hc:=hd.2 c (by rw[e];simp)
  unfold Lib.atoiAll
  simp only
  rw[if_neg (show¬(c.toNat=43\/c.toNat=45) from by omega)]
  unfold Lib.parseMag
  rw[if_neg (by simp),hp]
  simp only
  rw[if_neg (by omega),if_neg (by omega),if_neg (by omega)]
  congr 1
  omega
def jG (w:List UInt8):Int:=match Lib.atoiAll w with
 | .ok v=>v
 | .range=>Lib.atoiSat w
 | _=>0
theorem nF {n:Int} (h:bA n=true):jG (Lib.itoa n)=n:=by
 unfold bA at h
 simp only[cW,decide_eq_true_eq] at h
 unfold jG
 rw[Im (by omega)]
theorem qv (n:Int):(32:UInt8)∉Lib.itoa n:=by
 intro h
 unfold Lib.itoa at h
 split at h
 ·rcases cZ.1 h with h | h
  ·cases h
  have:=(tP _).2 _ h
  have e:(32:UInt8).toNat=32:=rfl
  omega
 have:=(tP _).2 _ h
 have e:(32:UInt8).toNat=32:=rfl
 omega
def cL:List UInt8->List (List UInt8)
 | []=> [[]]
 | b::l=>if b=32 then []::cL l else match cL l with
  | []=> [[b]]
  | w::r=>(b::w)::r
theorem N7 (s:List UInt8):cL s≠[]:=by
 cases s with
 | nil=>simp[cL]
 | cons b l=>
  unfold cL
  split
  ·simp
  split <;> simp
theorem zO {w:List UInt8} (h:(32:UInt8)∉w):cL w= [w]:=by
 induction w with
 | nil=>rfl
 | cons b l ih=>
  simp only[cZ,not_or] at h
  unfold cL
  rw[if_neg (fun e=>h.1 e.symm),ih h.2]
theorem Ds {w:List UInt8} (h:(32:UInt8)∉w) (s:List UInt8):cL (w++32::s)=w::cL s:=by
 induction w with
 | nil=>simp[cL]
 | cons b l ih=>
  simp only[cZ,not_or] at h
  rw[dt,cL,if_neg (fun e=>h.1 e.symm),ih h.2]
theorem Bq (x:List UInt8) {l:List (List UInt8)} (hl:l≠[]):Lib.join (x::l) [32]=x++32::Lib.join l [32]:=by
 cases l with
 | nil=>exact absurd rfl hl
 | cons y r=>simp[Lib.join,List.intercalate,List.intersperse]
theorem yd (x:List UInt8):Lib.join [x] [32]=x:=by simp[Lib.join,List.intercalate,List.intersperse]
theorem zP:∀{ws:List (List UInt8)},ws≠[]->(∀w∈ws,(32:UInt8)∉w)->cL (Lib.join ws [32])=ws
 | [],h,_=>absurd rfl h
 | [x],_,h=>by rw[yd,zO (h x (by simp))]
 | x::y::r,_,h=>by
  rw[Bq x (by simp),Ds (h x (by simp)),zP (by simp) fun w hw=>h w (List.mem_cons_of_mem _ hw)]
theorem Be {s:List UInt8} {i:Nat} :Lib.occAt s [32] i=true↔s[i]? =some 32:=by
 unfold Lib.occAt
 cases h:s.drop i with
 | nil=>
  have:s[i]? =none:=by
   rw[List.getElem?_eq_none_iff]
   have:=congrArg List.length h
   rw[aE,aZ] at this
   omega
  simp[this]
 | cons b r=>
  have:s[i]? =some b:=by
   have:=congrArg (fun l=>l[0]?) h
   simpa using this
  rw[this]
  simp only[List.isPrefixOf,Bool.and_true,beq_iff_eq,aV]
  exact eq_comm
theorem vG:∀(k:Nat) (s:List UInt8),Lib.count s [32]<=k->Lib.splitK [32] 0 k s=cL s
 | k,s,hk=>by
  rcases Lib.index_spec s [32] with ⟨h1,h2⟩ | ⟨i,h1,h2,h3,h4⟩
  ·have hno:(32:UInt8)∉s:=fun hm=>by
    obtain⟨j,hj,e⟩:=cz hm
    have:=h2 j (by omega)
    rw[Bool.eq_false_iff] at this
    exact this (Be.2 (by rw[an hj,e]))
   rw[zO hno]
   cases k with
   | zero=>rfl
   | succ k=>unfold Lib.splitK;rw[if_pos (by rw[h1];rfl)]
  have hc:=Lib.count_hit (s:=s) (sub:= [32]) (by simp) h1
  cases k with
  | zero=>omega
  | succ k=>
   have hi:=Be.1 h3
   have hil:=(aO.1 hi).1
   have hsplit:s=s.take i++32::s.drop (i+1):=by
    conv=>lhs;rw[<-mI i s]
    congr 1
    rw[nq hil]
    congr 1
    exact dM ((an hil).symm.trans hi)
   have hno:(32:UInt8)∉s.take i:=fun hm=>by
    obtain⟨j,hj,e⟩:=cz hm
    rw[ax] at hj
    rw[List.getElem_take] at e
    have:=h4 j (by omega)
    have h5:Lib.occAt s [32] j=true:=Be.2 (by rw[an (by omega),e])
    rw[h5] at this
    cases this
   unfold Lib.splitK
   rw[if_neg (by rw[h1];simp),h1]
   simp only[bi,vv,aK]
   rw[vG k _ (by have: [(32:UInt8)].length=1:=rfl;rw[this] at hc;omega)]
   conv=>rhs;rw[hsplit]
   rw[Ds hno]
structure eW where
 S:Int
 T:Int
 depth:Int
 cells:Int
 out:List Int
 deriving DecidableEq
instance:Inhabited eW:=⟨⟨0,0,0,0,[]⟩⟩
def kl (r:eW):Int:=
 if bF r.S 0 3=false then 6
 else if bF r.T 0 5=false\/bF r.depth 0 6=false\/bF r.cells 0 40=false then 3
 else if 10<r.out.length then 2
 else if dL r.out=true then 3 else 0
def Dj:List UInt8:= [115,116,97,116,117,115]
def KS:List UInt8:= [116,114,97,112]
def FP:List UInt8:= [100,101,112,116,104]
def FQ:List UInt8:= [99,101,108,108,115]
def uG:List UInt8:= [111,117,116]
def eZ (r:eW):List (List UInt8):= [Dj,Lib.itoa r.S,KS,Lib.itoa r.T,FP,Lib.itoa r.depth,FQ,Lib.itoa r.cells,uG]++r.out.map Lib.itoa
def ji (r:eW):List UInt8:=Lib.join (eZ r) [32]
theorem IU (r:eW):∀w∈eZ r,(32:UInt8)∉w:=fun w hw=>by
 unfold eZ at hw
 rcases cD.1 hw with hw | hw
 ·simp only[cZ,uE,or_false] at hw
  rcases hw with rfl | rfl | rfl | rfl | rfl | rfl | rfl | rfl | rfl
  ·decide
  ·exact qv _
  ·decide
  ·exact qv _
  ·decide
  ·exact qv _
  ·decide
  ·exact qv _
  decide
 obtain⟨n,_,rfl⟩:=kY.1 hw
 exact qv _
theorem Jd (r:eW):cL (ji r)=eZ r:=zP (by simp[eZ]) (IU r)
structure Co (r:eW):Prop where
 s:bA r.S=true
 t:bA r.T=true
 d:bA r.depth=true
 c:bA r.cells=true
 o:∀n∈r.out,bA n=true
 l:r.out.length<=10
theorem qW {r:eW} (h:kl r=0):Co r:=by
 have hi:∀{n k:Int},0<=k->k<=100->¬bF n 0 k=false->bA n=true:=fun {n k} h0 hk h=>by
  have:=cU.1 (by simpa using h)
  unfold bA
  simp only[cW,decide_eq_true_eq]
  omega
 unfold kl at h
 split at h
 ·cases h
 rename_i h1
 split at h
 ·cases h
 rename_i h2
 split at h
 ·cases h
 rename_i h3
 split at h
 ·cases h
 rename_i h4
 simp only[not_or] at h2
 refine⟨hi (by decide) (by decide) h1,hi (by decide) (by decide) h2.1,hi (by decide) (by decide) h2.2.1,hi (by decide) (by decide) h2.2.2,fun n hn=>?_,by omega⟩
 refine eB fun hno=>h4 ?_
 unfold dL
 exact cV.2 ⟨n,hn,by simpa using hno⟩
def qX (ws:List (List UInt8)) (f:List UInt8->Int):eW:=⟨f (ws.getD 1 []),f (ws.getD 3 []),f (ws.getD 5 []),f (ws.getD 7 []),(ws.drop 9).map f⟩
theorem CD {r:eW} (h:Co r):qX (eZ r) jG=r:=by
 obtain⟨st,tr,d,c,o⟩:=r
 unfold qX eZ
 have:(o.map Lib.itoa).map jG=o:=by
  rw[List.map_map]
  conv=>rhs;rw[<-List.map_id o]
  exact List.map_congr_left fun n hn=>nF (h.o n hn)
 simp[nF h.s,nF h.t,nF h.d,nF h.c]
 simpa using this
def zf (s:List UInt8):eW×Int:=if (cL s).length<9\/19<(cL s).length then (default,1) else if kl (qX (cL s) jG)≠0\/ji (qX (cL s) jG)≠s then (default,1) else (qX (cL s) jG,0)
theorem Jz {s:List UInt8} {r:eW} (h1:kl r=0) (h2:ji r=s):zf s=(r,0):=by
 have hi:=qW h1
 have hw:cL s=eZ r:=by rw[<-h2];exact Jd r
 have hl:=hi.l
 unfold zf
 rw[hw,CD hi,if_neg (by simp[eZ];omega),if_neg (by simp[h1,h2])]
end
