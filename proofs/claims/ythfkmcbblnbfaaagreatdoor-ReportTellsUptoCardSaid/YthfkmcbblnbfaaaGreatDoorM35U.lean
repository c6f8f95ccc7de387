/- Texts of one proof, one behind the other: lemmas alone. -/
import Derived.Test.YthfkmcbblnbfaaaGreatDoorM0U
import Derived.Lib.ItoaNum
import Derived.Lib.Join
import Derived.Lib.SplitLaws
import Derived.Lib.AtoiAllCases
import Derived.Test.YthfkmcbblnbfaaaGreatDoorM34U
import Derived.Test.YthfkmcbblnbfaaaGreatDoorM18U

namespace Go.Proofs.YthfkmcbblnbfaaaGreatDoor
set_option maxRecDepth 100000
set_option maxHeartbeats 16000000
open Go.RowKit
section
theorem lm (u:Nat):Lib.decDigits u≠[]/\∀b∈Lib.decDigits u,48<=b.toNat/\b.toNat<=57:=by
 induction u using Nat.strongRecOn with
 | ind u ih=>
  rw[Lib.decDigits]
  have hd:∀k,k<10->48<=(UInt8.ofNat (48+k)).toNat/\(UInt8.ofNat (48+k)).toNat<=57:=fun k hk=>by
   rw[UInt8.toNat_ofNat',Nat.mod_eq_of_lt (by omega)];omega
  split
  ·rename_i h
   refine⟨by simp,fun b hb=>?_⟩
   rw[dd.1 hb]
   exact hd u h
  rename_i h
  have:=ih (u / 10) (by omega)
  refine⟨by simp,fun b hb=>?_⟩
  rcases cS.1 hb with hb | hb
  ·exact this.2 b hb
  rw[dd.1 hb]
  exact hd (u % 10) (by omega)
theorem oo {k:Nat} (h:k<10):(UInt8.ofNat (48+k)).toNat=48+k:=by rw[UInt8.toNat_ofNat',Nat.mod_eq_of_lt (by omega)]
theorem vK (c:UInt8):∀(l:List UInt8) (acc v:Nat),Lib.parseUint10 acc l= .ok v->Lib.parseUint10 acc (l++ [c])=Lib.parseUint10 v [c]
 | [],acc,v,h=>by
  simp only[Lib.parseUint10,Lib.NumEnd.ok.injEq] at h
  subst h
  rfl
 | b::l,acc,v,h=>by
  obtain⟨R,hR⟩:∃R,Lib.parseUint10 v [c]=R:=⟨_,rfl⟩
  rw[hR]
  simp only[dE,Lib.parseUint10] at h⊢
  split at h
  ·rename_i h1
   rw[if_pos h1]
   split at h
   ·cases h
   rename_i h2
   rw[if_neg h2]
   split at h
   ·cases h
   rename_i h3
   rw[if_neg h3,<-hR]
   exact vK c l _ v h
  cases h
theorem yi (u:Nat) (hu:u<1000000000000000000):Lib.parseUint10 0 (Lib.decDigits u)= .ok u:=by
 induction u using Nat.strongRecOn with
 | ind u ih=>
  rw[Lib.decDigits]
  split
  ·rename_i h
   have:=oo h
   simp only[Lib.parseUint10,this]
   rw[if_pos (by omega),if_neg (by omega),if_neg (by omega)]
   congr 1
   omega
  rename_i h
  rw[vK _ _ _ _ (ih (u / 10) (by omega) (by omega))]
  have:=oo (k:=u % 10) (by omega)
  simp only[Lib.parseUint10,this]
  rw[if_pos (by omega),if_neg (by omega),if_neg (by omega)]
  congr 1
  omega
theorem ze {n:Int} (h: -1000000000000000000<n/\n<1000000000000000000):Lib.atoiAll (Lib.itoa n)= .ok n:=by
 unfold Lib.itoa
 split
 ·rename_i hn
  have hd:=lm n.natAbs
  have hp:=yi n.natAbs (by omega)
  unfold Lib.atoiAll
  simp only[show (45:UInt8).toNat=45 from rfl]
  rw[if_pos (show (45:Nat)=43\/True from .inr trivial)]
  unfold Lib.parseMag
  rw[if_neg hd.1,hp]
  simp only
  rw[if_neg (by simp),if_neg (fun h=>by have:=h.2;omega),if_pos trivial]
  congr 1
  omega
 rename_i hn
 have hd:=lm n.toNat
 have hp:=yi n.toNat (by omega)
 cases e:Lib.decDigits n.toNat with
 | nil=>exact absurd e hd.1
 | cons c r=>
  rw[e] at hp
  have hc:=hd.2 c (by rw[e];simp)
  unfold Lib.atoiAll
  simp only
  rw[if_neg (show¬(c.toNat=43\/c.toNat=45) from by omega)]
  unfold Lib.parseMag
  rw[if_neg (by simp),hp]
  simp only
  rw[if_neg (by omega),if_neg (by omega),if_neg (by omega)]
  congr 1
  omega
def eE (w:List UInt8):Int:=match Lib.atoiAll w with
 | .ok v=>v
 | .range=>Lib.atoiSat w
 | _=>0
theorem jJ {n:Int} (h:bg n=true):eE (Lib.itoa n)=n:=by
 unfold bg at h
 simp only[bI,decide_eq_true_eq] at h
 unfold eE
 rw[ze (by omega)]
theorem mr (n:Int):(32:UInt8)∉Lib.itoa n:=by
 intro h
 unfold Lib.itoa at h
 split at h
 ·rcases cc.1 h with h | h
  ·cases h
  have:=(lm _).2 _ h
  have e:(32:UInt8).toNat=32:=rfl
  omega
 have:=(lm _).2 _ h
 have e:(32:UInt8).toNat=32:=rfl
 omega
def aG:List UInt8->List (List UInt8)
 | []=> [[]]
 | b::l=>if b=32 then []::aG l else match aG l with
  | []=> [[b]]
  | w::r=>(b::w)::r
theorem mf (s:List UInt8):aG s≠[]:=by
 cases s with
 | nil=>simp[aG]
 | cons b l=>
  unfold aG
  split
  ·simp
  split <;> simp
theorem sD {w:List UInt8} (h:(32:UInt8)∉w):aG w= [w]:=by
 induction w with
 | nil=>rfl
 | cons b l ih=>
  simp only[cc,not_or] at h
  unfold aG
  rw[if_neg (fun e=>h.1 e.symm),ih h.2]
theorem vt {w:List UInt8} (h:(32:UInt8)∉w) (s:List UInt8):aG (w++32::s)=w::aG s:=by
 induction w with
 | nil=>simp[aG]
 | cons b l ih=>
  simp only[cc,not_or] at h
  rw[dE,aG,if_neg (fun e=>h.1 e.symm),ih h.2]
theorem iB (x:List UInt8) {l:List (List UInt8)} (hl:l≠[]):Lib.join (x::l) [32]=x++32::Lib.join l [32]:=by
 cases l with
 | nil=>exact absurd rfl hl
 | cons y r=>simp[Lib.join,List.intercalate,List.intersperse]
theorem iC (x:List UInt8):Lib.join [x] [32]=x:=by simp[Lib.join,List.intercalate,List.intersperse]
theorem sG:∀{ws:List (List UInt8)},ws≠[]->(∀w∈ws,(32:UInt8)∉w)->aG (Lib.join ws [32])=ws
 | [],h,_=>absurd rfl h
 | [x],_,h=>by rw[iC,sD (h x (by simp))]
 | x::y::r,_,h=>by
  rw[iB x (by simp),vt (h x (by simp)),sG (by simp) fun w hw=>h w (List.mem_cons_of_mem _ hw)]
theorem AR (s:List UInt8):Lib.join (aG s) [32]=s:=by
 induction s with
 | nil=>exact iC []
 | cons b l ih=>
  unfold aG
  split
  ·rename_i h
   subst h
   rw[iB [] (mf l),ih]
   rfl
  cases e:aG l with
  | nil=>exact absurd e (mf l)
  | cons w r=>
   rw[e] at ih
   simp only
   cases r with
   | nil=>
    rw[iC] at ih⊢
    rw[ih]
   | cons y r=>
    rw[iB _ (by simp)] at ih⊢
    rw[dE,ih]
theorem tu {s:List UInt8} {i:Nat} :Lib.occAt s [32] i=true↔s[i]? =some 32:=by
 unfold Lib.occAt
 cases h:s.drop i with
 | nil=>
  have:s[i]? =none:=by
   rw[List.getElem?_eq_none_iff]
   have:=congrArg List.length h
   rw[az,aH] at this
   omega
  simp[this]
 | cons b r=>
  have:s[i]? =some b:=by
   have:=congrArg (fun l=>l[0]?) h
   simpa using this
  rw[this]
  simp only[List.isPrefixOf,Bool.and_true,beq_iff_eq,au]
  exact eq_comm
theorem pn:∀(k:Nat) (s:List UInt8),Lib.count s [32]<=k->Lib.splitK [32] 0 k s=aG s
 | k,s,hk=>by
  rcases Lib.index_spec s [32] with ⟨h1,h2⟩ | ⟨i,h1,h2,h3,h4⟩
  ·have hno:(32:UInt8)∉s:=fun hm=>by
    obtain⟨j,hj,e⟩:=bD hm
    have:=h2 j (by omega)
    rw[Bool.eq_false_iff] at this
    exact this (tu.2 (by rw[ae hj,e]))
   rw[sD hno]
   cases k with
   | zero=>rfl
   | succ k=>unfold Lib.splitK;rw[if_pos (by rw[h1];rfl)]
  have hc:=Lib.count_hit (s:=s) (sub:= [32]) (by simp) h1
  cases k with
  | zero=>omega
  | succ k=>
   have hi:=tu.1 h3
   have hil:=(aq.1 hi).1
   have hsplit:s=s.take i++32::s.drop (i+1):=by
    conv=>lhs;rw[<-List.take_append_drop i s]
    congr 1
    rw[ku hil]
    congr 1
    exact dF ((ae hil).symm.trans hi)
   have hno:(32:UInt8)∉s.take i:=fun hm=>by
    obtain⟨j,hj,e⟩:=bD hm
    rw[an] at hj
    rw[List.getElem_take] at e
    have:=h4 j (by omega)
    have h5:Lib.occAt s [32] j=true:=tu.2 (by rw[ae (by omega),e])
    rw[h5] at this
    cases this
   unfold Lib.splitK
   rw[if_neg (by rw[h1];simp),h1]
   simp only[aV,Nat.add_zero,br]
   rw[pn k _ (by have: [(32:UInt8)].length=1:=rfl;rw[this] at hc;omega)]
   conv=>rhs;rw[hsplit]
   rw[vt hno]
structure cY where
 status:Int
 trap:Int
 depth:Int
 cells:Int
 out:List Int
 deriving DecidableEq
instance:Inhabited cY:=⟨⟨0,0,0,0,[]⟩⟩
def dR (r:cY):Int:=
 if ax r.status 0 3=false then 6
 else if ax r.trap 0 5=false\/ax r.depth 0 6=false\/ax r.cells 0 40=false then 3
 else if 10<r.out.length then 2
 else if cF r.out=true then 3 else 0
def qp:List UInt8:= [115,116,97,116,117,115]
def wv:List UInt8:= [116,114,97,112]
def sm:List UInt8:= [100,101,112,116,104]
def sn:List UInt8:= [99,101,108,108,115]
def nj:List UInt8:= [111,117,116]
def cU (r:cY):List (List UInt8):= [qp,Lib.itoa r.status,wv,Lib.itoa r.trap,sm,Lib.itoa r.depth,sn,Lib.itoa r.cells,nj]++r.out.map Lib.itoa
def fC (r:cY):List UInt8:=Lib.join (cU r) [32]
theorem zE (r:cY):∀w∈cU r,(32:UInt8)∉w:=fun w hw=>by
 unfold cU at hw
 rcases cS.1 hw with hw | hw
 ·simp only[cc,List.not_mem_nil,or_false] at hw
  rcases hw with rfl | rfl | rfl | rfl | rfl | rfl | rfl | rfl | rfl
  ·decide
  ·exact mr _
  ·decide
  ·exact mr _
  ·decide
  ·exact mr _
  ·decide
  ·exact mr _
  decide
 obtain⟨n,_,rfl⟩:=i7.1 hw
 exact mr _
theorem sF (r:cY):aG (fC r)=cU r:=sG (by simp[cU]) (zE r)
structure lG (r:cY):Prop where
 s:bg r.status=true
 t:bg r.trap=true
 d:bg r.depth=true
 c:bg r.cells=true
 o:∀n∈r.out,bg n=true
 l:r.out.length<=10
theorem lr {r:cY} (h:dR r=0):lG r:=by
 have hi:∀{n k:Int},0<=k->k<=100->¬ax n 0 k=false->bg n=true:=fun {n k} h0 hk h=>by
  have:=di.1 (by simpa using h)
  unfold bg
  simp only[bI,decide_eq_true_eq]
  omega
 unfold dR at h
 split at h
 ·cases h
 rename_i h1
 split at h
 ·cases h
 rename_i h2
 split at h
 ·cases h
 rename_i h3
 split at h
 ·cases h
 rename_i h4
 simp only[not_or] at h2
 refine⟨hi (by decide) (by decide) h1,hi (by decide) (by decide) h2.1,hi (by decide) (by decide) h2.2.1,hi (by decide) (by decide) h2.2.2,fun n hn=>?_,by omega⟩
 refine gZ fun hno=>h4 ?_
 unfold cF
 exact cM.2 ⟨n,hn,by simpa using hno⟩
def kX (ws:List (List UInt8)) (f:List UInt8->Int):cY:=⟨f (ws.getD 1 []),f (ws.getD 3 []),f (ws.getD 5 []),f (ws.getD 7 []),(ws.drop 9).map f⟩
theorem uE {r:cY} (h:lG r):kX (cU r) eE=r:=by
 obtain⟨st,tr,d,c,o⟩:=r
 unfold kX cU
 have:(o.map Lib.itoa).map eE=o:=by
  rw[List.map_map]
  conv=>rhs;rw[<-List.map_id o]
  exact List.map_congr_left fun n hn=>jJ (h.o n hn)
 simp[jJ h.s,jJ h.t,jJ h.d,jJ h.c]
 simpa using this
def iM (s:List UInt8):cY×Int:=if (aG s).length<9\/19<(aG s).length then (default,1) else if dR (kX (aG s) eE)≠0\/fC (kX (aG s) eE)≠s then (default,1) else (kX (aG s) eE,0)
theorem Ag {s:List UInt8} {r:cY} (h1:dR r=0) (h2:fC r=s):iM s=(r,0):=by
 have hi:=lr h1
 have hw:aG s=cU r:=by rw[<-h2];exact sF r
 have hl:=hi.l
 unfold iM
 rw[hw,uE hi,if_neg (by simp[cU];omega),if_neg (by simp[h1,h2])]
end
end Go.Proofs.YthfkmcbblnbfaaaGreatDoor
