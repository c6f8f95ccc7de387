/- Lemmas of one proof. -/
import Derived.Test.YthfkmcbblnbfaaaGreatDoorM0R
import Derived.Lib.ItoaNum
import Derived.Lib.Join
import Derived.Lib.SplitLaws
import Derived.Lib.AtoiAllCases
import Derived.Test.YthfkmcbblnbfaaaGreatDoorM36R

namespace Go.Proofs.YthfkmcbblnbfaaaGreatDoor
set_option maxRecDepth 100000
set_option maxHeartbeats 16000000
open Go.RowKit
section
theorem va (u:Nat):Lib.decDigits u≠[]/\∀b∈Lib.decDigits u,48<=b.toNat/\b.toNat<=57:=by
 induction u using Nat.strongRecOn with
 | ind u ih=>
  rw[Lib.decDigits]
  have hd:∀k,k<10->48<=(UInt8.ofNat (48+k)).toNat/\(UInt8.ofNat (48+k)).toNat<=57:=fun k hk=>by
   rw[UInt8.toNat_ofNat',Nat.mod_eq_of_lt (by omega)];omega
  split
  ·rename_i h
   refine⟨by simp,fun b hb=>?_⟩
   rw[cB.1 hb]
   exact hd u h
  rename_i h
  have:=ih (u / 10) (by omega)
  refine⟨by simp,fun b hb=>?_⟩
  rcases dD.1 hb with hb | hb
  ·exact this.2 b hb
  rw[cB.1 hb]
  exact hd (u % 10) (by omega)
theorem Fc {k:Nat} (h:k<10):(UInt8.ofNat (48+k)).toNat=48+k:=by rw[UInt8.toNat_ofNat',Nat.mod_eq_of_lt (by omega)]
theorem EP (c:UInt8):∀(l:List UInt8) (acc v:Nat),Lib.parseUint10 acc l= .ok v->Lib.parseUint10 acc (l++ [c])=Lib.parseUint10 v [c]
 | [],acc,v,h=>by
  simp only[Lib.parseUint10,Lib.NumEnd.ok.injEq] at h
  subst h
  rfl
 | b::l,acc,v,h=>by
  obtain⟨R,hR⟩:∃R,Lib.parseUint10 v [c]=R:=⟨_,rfl⟩
  rw[hR]
  simp only[fY,Lib.parseUint10] at h⊢
  split at h
  ·rename_i h1
   rw[if_pos h1]
   split at h
   ·cases h
   rename_i h2
   rw[if_neg h2]
   split at h
   ·cases h
   rename_i h3
   rw[if_neg h3,<-hR]
   exact EP c l _ v h
  cases h
theorem HW (u:Nat) (hu:u<1000000000000000000):Lib.parseUint10 0 (Lib.decDigits u)= .ok u:=by
 induction u using Nat.strongRecOn with
 | ind u ih=>
  rw[Lib.decDigits]
  split
  ·rename_i h
   have:=Fc h
   simp only[Lib.parseUint10,this]
   rw[if_pos (by omega),if_neg (by omega),if_neg (by omega)]
   congr 1
   omega
  rename_i h
  rw[EP _ _ _ _ (ih (u / 10) (by omega) (by omega))]
  have:=Fc (k:=u % 10) (by omega)
  simp only[Lib.parseUint10,this]
  rw[if_pos (by omega),if_neg (by omega),if_neg (by omega)]
  congr 1
  omega
theorem I4 {n:Int} (h: -1000000000000000000<n/\n<1000000000000000000):Lib.atoiAll (Lib.itoa n)= .ok n:=by
 unfold Lib.itoa
 split
 ·rename_i hn
  have hd:=va n.natAbs
  have hp:=HW n.natAbs (by omega)
  unfold Lib.atoiAll
  simp only[show (45:UInt8).toNat=45 from rfl]
  rw[if_pos (show (45:Nat)=43\/True from .inr trivial)]
  unfold Lib.parseMag
  rw[if_neg hd.1,hp]
  simp only
  rw[if_neg (by simp),if_neg (fun h=>by have:=h.2;omega),if_pos trivial]
  congr 1
  omega
 rename_i hn
 have hd:=va n.toNat
 have hp:=HW n.toNat (by omega)
 cases e:Lib.decDigits n.toNat with
 | nil=>exact absurd e hd.1
 | cons c r=>
  rw[e] at hp
  have hc:=hd.2 c (by rw[e];simp)
  unfold Lib.atoiAll
  simp only
  rw[if_neg (show¬(c.toNat=43\/c.toNat=45) from by omega)]
  unfold Lib.parseMag
  rw[if_neg (by simp),hp]
  simp only
  rw[if_neg (by omega),if_neg (by omega),if_neg (by omega)]
  congr 1
  omega
def kN (w:List UInt8):Int:=match Lib.atoiAll w with
 | .ok v=>v
 | .range=>Lib.atoiSat w
 | _=>0
theorem oR {n:Int} (h:cd n=true):kN (Lib.itoa n)=n:=by
 unfold cd at h
 simp only[db,decide_eq_true_eq] at h
 unfold kN
 rw[I4 (by omega)]
theorem rD (n:Int):(32:UInt8)∉Lib.itoa n:=by
 intro h
 unfold Lib.itoa at h
 split at h
 ·rcases dC.1 h with h | h
  ·cases h
  have:=(va _).2 _ h
  have e:(32:UInt8).toNat=32:=rfl
  omega
 have:=(va _).2 _ h
 have e:(32:UInt8).toNat=32:=rfl
 omega
def dz:List UInt8->List (List UInt8)
 | []=> [[]]
 | b::l=>if b=32 then []::dz l else match dz l with
  | []=> [[b]]
  | w::r=>(b::w)::r
theorem Oi (s:List UInt8):dz s≠[]:=by
 cases s with
 | nil=>simp[dz]
 | cons b l=>
  unfold dz
  split
  ·simp
  split <;> simp
theorem BI {w:List UInt8} (h:(32:UInt8)∉w):dz w= [w]:=by
 induction w with
 | nil=>rfl
 | cons b l ih=>
  simp only[dC,not_or] at h
  unfold dz
  rw[if_neg (fun e=>h.1 e.symm),ih h.2]
theorem Er {w:List UInt8} (h:(32:UInt8)∉w) (s:List UInt8):dz (w++32::s)=w::dz s:=by
 induction w with
 | nil=>simp[dz]
 | cons b l ih=>
  simp only[dC,not_or] at h
  rw[fY,dz,if_neg (fun e=>h.1 e.symm),ih h.2]
theorem Cv (x:List UInt8) {l:List (List UInt8)} (hl:l≠[]):Lib.join (x::l) [32]=x++32::Lib.join l [32]:=by
 cases l with
 | nil=>exact absurd rfl hl
 | cons y r=>simp[Lib.join,List.intercalate,List.intersperse]
theorem zS (x:List UInt8):Lib.join [x] [32]=x:=by simp[Lib.join,List.intercalate,List.intersperse]
theorem BJ:∀{ws:List (List UInt8)},ws≠[]->(∀w∈ws,(32:UInt8)∉w)->dz (Lib.join ws [32])=ws
 | [],h,_=>absurd rfl h
 | [x],_,h=>by rw[zS,BI (h x (by simp))]
 | x::y::r,_,h=>by
  rw[Cv x (by simp),Er (h x (by simp)),BJ (by simp) fun w hw=>h w (List.mem_cons_of_mem _ hw)]
theorem Cn {s:List UInt8} {i:Nat} :Lib.occAt s [32] i=true↔s[i]? =some 32:=by
 unfold Lib.occAt
 cases h:s.drop i with
 | nil=>
  have:s[i]? =none:=by
   rw[List.getElem?_eq_none_iff]
   have:=congrArg List.length h
   rw[aL,aD] at this
   omega
  simp[this]
 | cons b r=>
  have:s[i]? =some b:=by
   have:=congrArg (fun l=>l[0]?) h
   simpa using this
  rw[this]
  simp only[List.isPrefixOf,Bool.and_true,beq_iff_eq,br]
  exact eq_comm
theorem wY:∀(k:Nat) (s:List UInt8),Lib.count s [32]<=k->Lib.splitK [32] 0 k s=dz s
 | k,s,hk=>by
  rcases Lib.index_spec s [32] with ⟨h1,h2⟩ | ⟨i,h1,h2,h3,h4⟩
  ·have hno:(32:UInt8)∉s:=fun hm=>by
    obtain⟨j,hj,e⟩:=cg hm
    have:=h2 j (by omega)
    rw[pd] at this
    exact this (Cn.2 (by rw[ap hj,e]))
   rw[BI hno]
   cases k with
   | zero=>rfl
   | succ k=>unfold Lib.splitK;rw[if_pos (by rw[h1];rfl)]
  have hc:=Lib.count_hit (s:=s) (sub:= [32]) (by simp) h1
  cases k with
  | zero=>omega
  | succ k=>
   have hi:=Cn.1 h3
   have hil:=(aZ.1 hi).1
   have hsplit:s=s.take i++32::s.drop (i+1):=by
    conv=>lhs;rw[<-nM i s]
    congr 1
    rw[oA hil]
    congr 1
    exact eq ((ap hil).symm.trans hi)
   have hno:(32:UInt8)∉s.take i:=fun hm=>by
    obtain⟨j,hj,e⟩:=cg hm
    rw[aA] at hj
    rw[List.getElem_take] at e
    have:=h4 j (by omega)
    have h5:Lib.occAt s [32] j=true:=Cn.2 (by rw[ap (by omega),e])
    rw[h5] at this
    cases this
   unfold Lib.splitK
   rw[if_neg (by rw[h1];simp),h1]
   simp only[bw,wQ,aP]
   rw[wY k _ (by have: [(32:UInt8)].length=1:=rfl;rw[this] at hc;omega)]
   conv=>rhs;rw[hsplit]
   rw[Er hno]
structure gD where
 S:Int
 T:Int
 depth:Int
 cells:Int
 out:List Int
 deriving DecidableEq
instance:Inhabited gD:=⟨⟨0,0,0,0,[]⟩⟩
def mJ (r:gD):Int:=
 if bq r.S 0 3=false then 6
 else if bq r.T 0 5=false\/bq r.depth 0 6=false\/bq r.cells 0 40=false then 3
 else if 10<r.out.length then 2
 else if dq r.out=true then 3 else 0
def Ej:List UInt8:= [115,116,97,116,117,115]
def Lu:List UInt8:= [116,114,97,112]
def GV:List UInt8:= [100,101,112,116,104]
def GW:List UInt8:= [99,101,108,108,115]
def vQ:List UInt8:= [111,117,116]
def fV (r:gD):List (List UInt8):= [Ej,Lib.itoa r.S,Lu,Lib.itoa r.T,GV,Lib.itoa r.depth,GW,Lib.itoa r.cells,vQ]++r.out.map Lib.itoa
def nB (r:gD):List UInt8:=Lib.join (fV r) [32]
theorem JA (r:gD):∀w∈fV r,(32:UInt8)∉w:=fun w hw=>by
 unfold fV at hw
 rcases dD.1 hw with hw | hw
 ·simp only[dC,vO,or_false] at hw
  rcases hw with rfl | rfl | rfl | rfl | rfl | rfl | rfl | rfl | rfl
  ·decide
  ·exact rD _
  ·decide
  ·exact rD _
  ·decide
  ·exact rD _
  ·decide
  ·exact rD _
  decide
 obtain⟨n,_,rfl⟩:=lm.1 hw
 exact rD _
theorem JS (r:gD):dz (nB r)=fV r:=BJ (by simp[fV]) (JA r)
structure Dm (r:gD):Prop where
 s:cd r.S=true
 t:cd r.T=true
 d:cd r.depth=true
 c:cd r.cells=true
 o:∀n∈r.out,cd n=true
 l:r.out.length<=10
theorem we {r:gD} (h:mJ r=0):Dm r:=by
 have hi:∀{n k:Int},0<=k->k<=100->¬bq n 0 k=false->cd n=true:=fun {n k} h0 hk h=>by
  have:=dN.1 (by simpa using h)
  unfold cd
  simp only[db,decide_eq_true_eq]
  omega
 unfold mJ at h
 split at h
 ·cases h
 rename_i h1
 split at h
 ·cases h
 rename_i h2
 split at h
 ·cases h
 rename_i h3
 split at h
 ·cases h
 rename_i h4
 simp only[not_or] at h2
 refine⟨hi (by decide) (by decide) h1,hi (by decide) (by decide) h2.1,hi (by decide) (by decide) h2.2.1,hi (by decide) (by decide) h2.2.2,fun n hn=>?_,by omega⟩
 refine gP fun hno=>h4 ?_
 unfold dq
 exact cG.2 ⟨n,hn,by simpa using hno⟩
def se (ws:List (List UInt8)) (f:List UInt8->Int):gD:=⟨f (ws.getD 1 []),f (ws.getD 3 []),f (ws.getD 5 []),f (ws.getD 7 []),(ws.drop 9).map f⟩
theorem DD {r:gD} (h:Dm r):se (fV r) kN=r:=by
 obtain⟨st,tr,d,c,o⟩:=r
 unfold se fV
 have:(o.map Lib.itoa).map kN=o:=by
  rw[List.map_map]
  conv=>rhs;rw[<-List.map_id o]
  exact List.map_congr_left fun n hn=>oR (h.o n hn)
 simp[oR h.s,oR h.t,oR h.d,oR h.c]
 simpa using this
def Bh (s:List UInt8):gD×Int:=if (dz s).length<9\/19<(dz s).length then (default,1) else if mJ (se (dz s) kN)≠0\/nB (se (dz s) kN)≠s then (default,1) else (se (dz s) kN,0)
theorem J7 {s:List UInt8} {r:gD} (h1:mJ r=0) (h2:nB r=s):Bh s=(r,0):=by
 have hi:=we h1
 have hw:dz s=fV r:=by rw[<-h2];exact JS r
 have hl:=hi.l
 unfold Bh
 rw[hw,DD hi,if_neg (by simp[fV];omega),if_neg (by simp[h1,h2])]
end
