/- Texts of one proof, one behind the other: lemmas alone. -/
import Derived.Test.YthfkmcbblnbfaaaGreatDoorM0B
import Derived.Lib.ItoaNum
import Derived.Lib.Join
import Derived.Lib.SplitLaws
import Derived.Lib.AtoiAllCases
import Derived.Test.YthfkmcbblnbfaaaGreatDoorM34B
import Derived.Test.YthfkmcbblnbfaaaGreatDoorM19B

namespace Go.Proofs.YthfkmcbblnbfaaaGreatDoor
set_option maxRecDepth 100000
set_option maxHeartbeats 16000000
open Go.RowKit
section
theorem nP (u:Nat):Lib.decDigits u≠[]/\∀b∈Lib.decDigits u,48<=b.toNat/\b.toNat<=57:=by
 induction u using Nat.strongRecOn with
 | ind u ih=>
  rw[Lib.decDigits]
  have hd:∀k,k<10->48<=(UInt8.ofNat (48+k)).toNat/\(UInt8.ofNat (48+k)).toNat<=57:=fun k hk=>by
   rw[UInt8.toNat_ofNat',Nat.mod_eq_of_lt (by omega)];omega
  split
  ·rename_i h
   refine⟨by simp,fun b hb=>?_⟩
   rw[bG.1 hb]
   exact hd u h
  rename_i h
  have:=ih (u / 10) (by omega)
  refine⟨by simp,fun b hb=>?_⟩
  rcases cE.1 hb with hb | hb
  ·exact this.2 b hb
  rw[bG.1 hb]
  exact hd (u % 10) (by omega)
theorem vO {k:Nat} (h:k<10):(UInt8.ofNat (48+k)).toNat=48+k:=by rw[UInt8.toNat_ofNat',Nat.mod_eq_of_lt (by omega)]
theorem vw (c:UInt8):∀(l:List UInt8) (acc v:Nat),Lib.parseUint10 acc l= .ok v->Lib.parseUint10 acc (l++ [c])=Lib.parseUint10 v [c]
 | [],acc,v,h=>by
  simp only[Lib.parseUint10,Lib.NumEnd.ok.injEq] at h
  subst h
  rfl
 | b::l,acc,v,h=>by
  obtain⟨R,hR⟩:∃R,Lib.parseUint10 v [c]=R:=⟨_,rfl⟩
  rw[hR]
  simp only[dK,Lib.parseUint10] at h⊢
  split at h
  ·rename_i h1
   rw[if_pos h1]
   split at h
   ·cases h
   rename_i h2
   rw[if_neg h2]
   split at h
   ·cases h
   rename_i h3
   rw[if_neg h3,<-hR]
   exact vw c l _ v h
  cases h
theorem x8 (u:Nat) (hu:u<1000000000000000000):Lib.parseUint10 0 (Lib.decDigits u)= .ok u:=by
 induction u using Nat.strongRecOn with
 | ind u ih=>
  rw[Lib.decDigits]
  split
  ·rename_i h
   have:=vO h
   simp only[Lib.parseUint10,this]
   rw[if_pos (by omega),if_neg (by omega),if_neg (by omega)]
   congr 1
   omega
  rename_i h
  rw[vw _ _ _ _ (ih (u / 10) (by omega) (by omega))]
  have:=vO (k:=u % 10) (by omega)
  simp only[Lib.parseUint10,this]
  rw[if_pos (by omega),if_neg (by omega),if_neg (by omega)]
  congr 1
  omega
theorem za {n:Int} (h: -1000000000000000000<n/\n<1000000000000000000):Lib.atoiAll (Lib.itoa n)= .ok n:=by
 unfold Lib.itoa
 split
 ·rename_i hn
  have hd:=nP n.natAbs
  have hp:=x8 n.natAbs (by omega)
  unfold Lib.atoiAll
  simp only[show (45:UInt8).toNat=45 from rfl]
  rw[if_pos (show (45:Nat)=43\/True from .inr trivial)]
  unfold Lib.parseMag
  rw[if_neg hd.1,hp]
  simp only
  rw[if_neg (by simp),if_neg (fun h=>by have:=h.2;omega),if_pos trivial]
  congr 1
  omega
 rename_i hn
 have hd:=nP n.toNat
 have hp:=x8 n.toNat (by omega)
 cases e:Lib.decDigits n.toNat with
 | nil=>exact absurd e hd.1
 | cons c r=>
  rw[e] at hp
  have hc:=hd.2 c (by rw[e];simp)
  unfold Lib.atoiAll
  simp only
  rw[if_neg (show¬(c.toNat=43\/c.toNat=45) from by omega)]
  unfold Lib.parseMag
  rw[if_neg (by simp),hp]
  simp only
  rw[if_neg (by omega),if_neg (by omega),if_neg (by omega)]
  congr 1
  omega
def gC (w:List UInt8):Int:=match Lib.atoiAll w with
 | .ok v=>v
 | .range=>Lib.atoiSat w
 | _=>0
theorem j7 {n:Int} (h:b9 n=true):gC (Lib.itoa n)=n:=by
 unfold b9 at h
 simp only[cO,decide_eq_true_eq] at h
 unfold gC
 rw[za (by omega)]
theorem lM (n:Int):(32:UInt8)∉Lib.itoa n:=by
 intro h
 unfold Lib.itoa at h
 split at h
 ·rcases cu.1 h with h | h
  ·cases h
  have:=(nP _).2 _ h
  have e:(32:UInt8).toNat=32:=rfl
  omega
 have:=(nP _).2 _ h
 have e:(32:UInt8).toNat=32:=rfl
 omega
def bF:List UInt8->List (List UInt8)
 | []=> [[]]
 | b::l=>if b=32 then []::bF l else match bF l with
  | []=> [[b]]
  | w::r=>(b::w)::r
theorem Ep (s:List UInt8):bF s≠[]:=by
 cases s with
 | nil=>simp[bF]
 | cons b l=>
  unfold bF
  split
  ·simp
  split <;> simp
theorem sk {w:List UInt8} (h:(32:UInt8)∉w):bF w= [w]:=by
 induction w with
 | nil=>rfl
 | cons b l ih=>
  simp only[cu,not_or] at h
  unfold bF
  rw[if_neg (fun e=>h.1 e.symm),ih h.2]
theorem vh {w:List UInt8} (h:(32:UInt8)∉w) (s:List UInt8):bF (w++32::s)=w::bF s:=by
 induction w with
 | nil=>simp[bF]
 | cons b l ih=>
  simp only[cu,not_or] at h
  rw[dK,bF,if_neg (fun e=>h.1 e.symm),ih h.2]
theorem ti (x:List UInt8) {l:List (List UInt8)} (hl:l≠[]):Lib.join (x::l) [32]=x++32::Lib.join l [32]:=by
 cases l with
 | nil=>exact absurd rfl hl
 | cons y r=>simp[Lib.join,List.intercalate,List.intersperse]
theorem qT (x:List UInt8):Lib.join [x] [32]=x:=by simp[Lib.join,List.intercalate,List.intersperse]
theorem sm:∀{ws:List (List UInt8)},ws≠[]->(∀w∈ws,(32:UInt8)∉w)->bF (Lib.join ws [32])=ws
 | [],h,_=>absurd rfl h
 | [x],_,h=>by rw[qT,sk (h x (by simp))]
 | x::y::r,_,h=>by
  rw[ti x (by simp),vh (h x (by simp)),sm (by simp) fun w hw=>h w (List.mem_cons_of_mem _ hw)]
theorem s9 {s:List UInt8} {i:Nat} :Lib.occAt s [32] i=true↔s[i]? =some 32:=by
 unfold Lib.occAt
 cases h:s.drop i with
 | nil=>
  have:s[i]? =none:=by
   rw[List.getElem?_eq_none_iff]
   have:=congrArg List.length h
   rw[aA,aK] at this
   omega
  simp[this]
 | cons b r=>
  have:s[i]? =some b:=by
   have:=congrArg (fun l=>l[0]?) h
   simpa using this
  rw[this]
  simp only[List.isPrefixOf,Bool.and_true,beq_iff_eq,az]
  exact eq_comm
theorem o4:∀(k:Nat) (s:List UInt8),Lib.count s [32]<=k->Lib.splitK [32] 0 k s=bF s
 | k,s,hk=>by
  rcases Lib.index_spec s [32] with ⟨h1,h2⟩ | ⟨i,h1,h2,h3,h4⟩
  ·have hno:(32:UInt8)∉s:=fun hm=>by
    obtain⟨j,hj,e⟩:=bN hm
    have:=h2 j (by omega)
    rw[Bool.eq_false_iff] at this
    exact this (s9.2 (by rw[ae hj,e]))
   rw[sk hno]
   cases k with
   | zero=>rfl
   | succ k=>unfold Lib.splitK;rw[if_pos (by rw[h1];rfl)]
  have hc:=Lib.count_hit (s:=s) (sub:= [32]) (by simp) h1
  cases k with
  | zero=>omega
  | succ k=>
   have hi:=s9.1 h3
   have hil:=(aw.1 hi).1
   have hsplit:s=s.take i++32::s.drop (i+1):=by
    conv=>lhs;rw[<-mB i s]
    congr 1
    rw[jR hil]
    congr 1
    exact du ((ae hil).symm.trans hi)
   have hno:(32:UInt8)∉s.take i:=fun hm=>by
    obtain⟨j,hj,e⟩:=bN hm
    rw[am] at hj
    rw[List.getElem_take] at e
    have:=h4 j (by omega)
    have h5:Lib.occAt s [32] j=true:=s9.2 (by rw[ae (by omega),e])
    rw[h5] at this
    cases this
   unfold Lib.splitK
   rw[if_neg (by rw[h1];simp),h1]
   simp only[a6,oW,aS]
   rw[o4 k _ (by have: [(32:UInt8)].length=1:=rfl;rw[this] at hc;omega)]
   conv=>rhs;rw[hsplit]
   rw[vh hno]
structure dt where
 status:Int
 trap:Int
 depth:Int
 cells:Int
 out:List Int
 deriving DecidableEq
instance:Inhabited dt:=⟨⟨0,0,0,0,[]⟩⟩
def gu (r:dt):Int:=
 if aZ r.status 0 3=false then 6
 else if aZ r.trap 0 5=false\/aZ r.depth 0 6=false\/aZ r.cells 0 40=false then 3
 else if 10<r.out.length then 2
 else if dy r.out=true then 3 else 0
def va:List UInt8:= [115,116,97,116,117,115]
def BE:List UInt8:= [116,114,97,112]
def xh:List UInt8:= [100,101,112,116,104]
def xi:List UInt8:= [99,101,108,108,115]
def oB:List UInt8:= [111,117,116]
def dF (r:dt):List (List UInt8):= [va,Lib.itoa r.status,BE,Lib.itoa r.trap,xh,Lib.itoa r.depth,xi,Lib.itoa r.cells,oB]++r.out.map Lib.itoa
def ie (r:dt):List UInt8:=Lib.join (dF r) [32]
theorem zB (r:dt):∀w∈dF r,(32:UInt8)∉w:=fun w hw=>by
 unfold dF at hw
 rcases cE.1 hw with hw | hw
 ·simp only[cu,List.not_mem_nil,or_false] at hw
  rcases hw with rfl | rfl | rfl | rfl | rfl | rfl | rfl | rfl | rfl
  ·decide
  ·exact lM _
  ·decide
  ·exact lM _
  ·decide
  ·exact lM _
  ·decide
  ·exact lM _
  decide
 obtain⟨n,_,rfl⟩:=List.mem_map.1 hw
 exact lM _
theorem zM (r:dt):bF (ie r)=dF r:=sm (by simp[dF]) (zB r)
structure ue (r:dt):Prop where
 s:b9 r.status=true
 t:b9 r.trap=true
 d:b9 r.depth=true
 c:b9 r.cells=true
 o:∀n∈r.out,b9 n=true
 l:r.out.length<=10
theorem l4 {r:dt} (h:gu r=0):ue r:=by
 have hi:∀{n k:Int},0<=k->k<=100->¬aZ n 0 k=false->b9 n=true:=fun {n k} h0 hk h=>by
  have:=cT.1 (by simpa using h)
  unfold b9
  simp only[cO,decide_eq_true_eq]
  omega
 unfold gu at h
 split at h
 ·cases h
 rename_i h1
 split at h
 ·cases h
 rename_i h2
 split at h
 ·cases h
 rename_i h3
 split at h
 ·cases h
 rename_i h4
 simp only[not_or] at h2
 refine⟨hi (by decide) (by decide) h1,hi (by decide) (by decide) h2.1,hi (by decide) (by decide) h2.2.1,hi (by decide) (by decide) h2.2.2,fun n hn=>?_,by omega⟩
 refine jS fun hno=>h4 ?_
 unfold dy
 exact dL.2 ⟨n,hn,by simpa using hno⟩
def l5 (ws:List (List UInt8)) (f:List UInt8->Int):dt:=⟨f (ws.getD 1 []),f (ws.getD 3 []),f (ws.getD 5 []),f (ws.getD 7 []),(ws.drop 9).map f⟩
theorem ur {r:dt} (h:ue r):l5 (dF r) gC=r:=by
 obtain⟨st,tr,d,c,o⟩:=r
 unfold l5 dF
 have:(o.map Lib.itoa).map gC=o:=by
  rw[List.map_map]
  conv=>rhs;rw[<-List.map_id o]
  exact List.map_congr_left fun n hn=>j7 (h.o n hn)
 simp[j7 h.s,j7 h.t,j7 h.d,j7 h.c]
 simpa using this
def kh (s:List UInt8):dt×Int:=if (bF s).length<9\/19<(bF s).length then (default,1) else if gu (l5 (bF s) gC)≠0\/ie (l5 (bF s) gC)≠s then (default,1) else (l5 (bF s) gC,0)
theorem sF {s:List UInt8} {r:dt} (h1:gu r=0) (h2:ie r=s):kh s=(r,0):=by
 have hi:=l4 h1
 have hw:bF s=dF r:=by rw[<-h2];exact zM r
 have hl:=hi.l
 unfold kh
 rw[hw,ur hi,if_neg (by simp[dF];omega),if_neg (by simp[h1,h2])]
theorem zZ {s:List UInt8} (h:(kh s).2=0):gu (kh s).1=0/\ie (kh s).1=s:=by
 unfold kh at h⊢
 split at h
 ·cases h
 rename_i h1
 split at h
 ·cases h
 rename_i h2
 simp only[not_or,fu] at h2
 rw[if_neg h1,if_neg (by simp[h2])]
 exact h2
end
end Go.Proofs.YthfkmcbblnbfaaaGreatDoor
