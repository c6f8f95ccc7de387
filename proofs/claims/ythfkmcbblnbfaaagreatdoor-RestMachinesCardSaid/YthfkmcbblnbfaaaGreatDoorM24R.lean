/- Lemmas of one proof. -/
import Derived.Test.YthfkmcbblnbfaaaGreatDoorM0R
import Derived.Ground.NamesProg
import Derived.Ground.Names2Prog
import Derived.Shelf.Sort.AssemblyIn
import Derived.Shelf.Slices.CompactI
import Derived.Lib.RowBridge
import Derived.Test.YthfkmcbblnbfaaaGreatDoorM19R

namespace Go.Proofs.YthfkmcbblnbfaaaGreatDoor
set_option maxRecDepth 100000
set_option maxHeartbeats 16000000
section
open Go.Shelf
def vn:Go.Shelf.Ren:=⟨fun | 189=>167 | 125=>220 | 257=>219 | 128=>273 | 129=>274 | 294=>264 | 295=>265 | 296=>266 | 297=>267 | 298=>268 | 299=>269 | 216=>270 | 300=>271 | 301=>272 | 328=>305 | 329=>306 | 330=>307 | 331=>308 | 332=>309 | 215=>310 | 343=>319 | n=>n,fun | 28=>35 | 3=>3 | 46=>180 | 0=>0 | 51=>278 | 53=>286 | 4=>4 | 183=>303 | 182=>302 | 131=>134 | 5=>5 | 9=>9 | 218=>332 | 222=>124 | 228=>347 | 229=>348 | n=>n,fun | n=>n⟩
theorem Bf:Go.Proofs.Lays.n189 Tryz.prog vn:= {
 mixed:=by kernel_rfl,f125:=Tryz.func220.trans (congrArg some (by kernel_rfl)),f128:=Tryz.func273.trans (congrArg some (by kernel_rfl)),f129:=Tryz.func274.trans (congrArg some (by kernel_rfl)),f189:=Tryz.func167.trans (congrArg some (by kernel_rfl)),f215:=Tryz.func310.trans (congrArg some (by kernel_rfl)),f216:=Tryz.func270.trans (congrArg some (by kernel_rfl)),f257:=Tryz.func219.trans (congrArg some (by kernel_rfl)),
 f294:=Tryz.func264.trans (congrArg some (by kernel_rfl)),f295:=Tryz.func265.trans (congrArg some (by kernel_rfl)),f296:=Tryz.func266.trans (congrArg some (by kernel_rfl)),f297:=Tryz.func267.trans (congrArg some (by kernel_rfl)),f298:=Tryz.func268.trans (congrArg some (by kernel_rfl)),f299:=Tryz.func269.trans (congrArg some (by kernel_rfl)),f300:=Tryz.func271.trans (congrArg some (by kernel_rfl)),
 f301:=Tryz.func272.trans (congrArg some (by kernel_rfl)),f328:=Tryz.func305.trans (congrArg some (by kernel_rfl)),f329:=Tryz.func306.trans (congrArg some (by kernel_rfl)),f330:=Tryz.func307.trans (congrArg some (by kernel_rfl)),f331:=Tryz.func308.trans (congrArg some (by kernel_rfl)),f332:=Tryz.func309.trans (congrArg some (by kernel_rfl)),f343:=Tryz.func319.trans (congrArg some (by kernel_rfl)),
 t0:=Tryz.underlying0,a0:=Tryz.isAgg0,z0:=Tryz.sizeOf0,v0:=Tryz.zeroValue0,t3:=Tryz.underlying3,a3:=Tryz.isAgg3,z3:=Tryz.sizeOf3,v3:=Tryz.zeroValue3,t4:=Tryz.underlying4,a4:=Tryz.isAgg4,z4:=Tryz.sizeOf4,v4:=Tryz.zeroValue4,t5:=Tryz.underlying5,a5:=Tryz.isAgg5,z5:=Tryz.sizeOf5,v5:=Tryz.zeroValue5,t9:=Tryz.underlying9,a9:=Tryz.isAgg9,z9:=Tryz.sizeOf9,
 v9:=Tryz.zeroValue9,t28:=Tryz.underlying35,a28:=Tryz.isAgg35,z28:=Tryz.sizeOf35,v28:=Tryz.zeroValue35,t46:=Tryz.underlying180,a46:=Tryz.isAgg180,z46:=Tryz.sizeOf180,v46:=Tryz.zeroValue180,t51:=Tryz.underlying278,a51:=Tryz.isAgg278,z51:=Tryz.sizeOf278,v51:=Tryz.zeroValue278,t53:=Tryz.underlying286,a53:=Tryz.isAgg286,z53:=Tryz.sizeOf286,v53:=Tryz.zeroValue286,
 t131:=Tryz.underlying134,a131:=Tryz.isAgg134,z131:=Tryz.sizeOf134,v131:=Tryz.zeroValue134,t182:=Tryz.underlying302,a182:=Tryz.isAgg302,z182:=Tryz.sizeOf302,v182:=Tryz.zeroValue302,t183:=Tryz.underlying303,a183:=Tryz.isAgg303,z183:=Tryz.sizeOf303,v183:=Tryz.zeroValue303,t218:=Tryz.underlying332,a218:=Tryz.isAgg332,z218:=Tryz.sizeOf332,v218:=Tryz.zeroValue332,
 t222:=Tryz.underlying124,a222:=Tryz.isAgg124,z222:=Tryz.sizeOf124,v222:=Tryz.zeroValue124,t228:=Tryz.underlying347,a228:=Tryz.isAgg347,z228:=Tryz.sizeOf347,v228:=Tryz.zeroValue347,t229:=Tryz.underlying348,a229:=Tryz.isAgg348,z229:=Tryz.sizeOf348,v229:=Tryz.zeroValue348}
def sY:Go.Shelf.Ren:=⟨fun | 20=>168 | n=>n,fun | 22=>35 | 3=>3 | 4=>4 | 0=>0 | n=>n,fun | n=>n⟩
theorem ql:Go.Proofs.Lays2.n20 Tryz.prog sY:= {
 mixed:=by kernel_rfl,f20:=Tryz.func168.trans (congrArg some (by kernel_rfl)),t0:=Tryz.underlying0,a0:=Tryz.isAgg0,z0:=Tryz.sizeOf0,v0:=Tryz.zeroValue0,t3:=Tryz.underlying3,a3:=Tryz.isAgg3,z3:=Tryz.sizeOf3,v3:=Tryz.zeroValue3,t4:=Tryz.underlying4,a4:=Tryz.isAgg4,z4:=Tryz.sizeOf4,v4:=Tryz.zeroValue4,t22:=Tryz.underlying35,a22:=Tryz.isAgg35,z22:=Tryz.sizeOf35,
 v22:=Tryz.zeroValue35,i3:=by kernel_rfl}
end
section
open Go.RowKit Go.Shelf Go.Sort
theorem D5 {L:List FuncId} {n:Nat} {P:Program} {f:FuncId} {args:Array Value} {w:World} {R:Ending->World->Prop} (h:∀D,CallsIn (Fence.list L (some D)) n P f args w R):Calls P f args w R:=fun cs=>by
 obtain⟨e,w',fr,r,s,x⟩:=(h (cs.length+n+1)).2 cs (fun d hd=>by cases hd;omega)
 exact⟨e,w',fr,r,s.comes,x⟩
section
variable {B:Nat} {w0 w:World} {H:List aJ} {g o m c:Nat} {xs ys:List Int} {F:Nat->Prop}
theorem H0 (h:cL w F (.slice (some ⟨g,o,none⟩) m c) xs):∃cur Fs,fI w F (.slice (some ⟨g,o,none⟩) m c) xs g o c cur Fs/\xs.length=m:=by
 rcases h with ⟨h,_⟩ | ⟨g',p,cap,cur,Fs,h⟩
 ·cases h
 have hv:=h.hv
 injection hv with e1 e2 e3
 injection e1 with e1
 injection e1 with e4 e5 e6
 subst e2 e3 e4 e5
 exact⟨cur,Fs,h,rfl⟩
theorem zL (h:cL w F (.slice (some ⟨g,o,none⟩) m c) xs):xs.length=m/\m<=c/\c<=maxLen/\g<w.heap.size/\Holds (Value.int .i64) w g o xs.toArray:=by
 obtain⟨cur,Fs,h,hl⟩:=H0 h
 refine⟨hl,hl▸h.hn,h.hc,h.lt,fun j hj=>?_⟩
 have hj:j<xs.length:=by simpa using hj
 have e:=(h.el j xs[j] (ap hj)).1.1
 refine⟨?_,h.frozen _⟩
 rw[h.cell]
 have e2:=congrArg (fun l=>l[0]?) e
 simp only[gg _ _ _ _ (show 0<aE.k Int from Nat.one_pos)] at e2
 have:aE.k Int=1:=rfl
 rw[this,ti,wQ] at e2
 rw[e2]
 simp[hj]
theorem Cw.putInts (h:Cw B w0 (ak (.slice (some ⟨g,o,none⟩) m c) xs::H) w) (hl:ys.length=m) (hi:∀y∈ys,aH y) (q:Nat) (os:Array Obj) :
  Cw B w0 (ak (.slice (some ⟨g,o,none⟩) m c) ys::H) (grow (putRow (Value.int .i64) (Sort.ahead w q) g o ys.toArray) os):=by
 refine h.upd fun F ho hB=>?_
 obtain⟨cur,Fs,h,hxl⟩:=H0 (show cL w F _ xs from ho)
 have hlt:=h.lt
 have hhp:∀b,b<w.heap.size->(grow (putRow (Value.int .i64) (Sort.ahead w q) g o ys.toArray) os).heap[b]? =(w.heap.modify g (onCells (putCells (Value.int .i64) o ys.toArray)))[b]? :=by
  intro b hb
  show (((w.heap.modify g _)++os):Array Obj)[b]? =_
  rw[Array.getElem?_append_left (by simpa using hb)]
 have hsz:(putCells (Value.int .i64) o ys.toArray cur).size=cur.size:=by simp[putCells]
 have hk:aE.k Int=1:=rfl
 have hs:=h.hs
 have hn:=h.hn
 refine⟨F,.inr ⟨g,o,c,putCells (Value.int .i64) o ys.toArray cur,fun _ _=>False,⟨by rw[hl],?_,by omega,h.hc,by rw[hsz];exact hs,by have:=h.hl;omega,?_,?_,fun _ _ h=>h,fun _ _ _ _ _ h=>h.elim⟩⟩,rfl,rfl,rfl,?_,?_,fun b hb=> .inl hb⟩
 ·rw[hhp g hlt,Array.getElem?_modify,if_pos rfl,h.hg]
  rfl
 ·intro i x hx
  have hil:=(aZ.1 hx).1
  refine⟨⟨?_,hi x (eJ hx)⟩,fun _ h=>h⟩
  apply fq
  intro j
  rw[hk] at *
  by_cases hj:j<1
  ·obtain rfl:j=0:=by omega
   rw[gg _ _ _ _ (by omega)]
   have:o+i*1+0<cur.size:=by omega
   simp only[putCells,Array.getElem?_mapIdx,jf this,Option.map_some]
   rw[if_pos (by simp;omega)]
   have e:o+i*1+0 - o=i:=by omega
   rw[e]
   have:=(aZ.1 hx).2
   simp[hil,this]
  rw[aW (by rw[aA];omega),aW (by simp;omega)]
 ·intro b
  rw[h.hF b]
  constructor
  ·rintro(h1 | ⟨i,hi',hb⟩)
   ·exact .inl h1
   exact((h.el i _ (ap hi')).2 b hb).elim
  rintro(h1 | ⟨_,_,h1⟩)
  ·exact .inl h1
  exact h1.elim
 ·show w.heap.size<=((w.heap.modify g _)++os:Array Obj).size
  simp
 intro b hb hF
 rw[hhp b hb,Array.getElem?_modify,if_neg (fun e=>hF ((h.hF b).2 (.inl e.symm)))]
end
theorem tv (d:Array Int) (hs:∀i,i+1<d.size->d[i]! <=d[i+1]!):∀m,m<=d.size->(Lib.compactUpTo d m).Pairwise (· < ·)/\(∀a∈Lib.compactUpTo d m,∃j,j<m/\d[j]! =a)/\(∀j,j<m->d[j]! ∈Lib.compactUpTo d m)/\(0<m->∀a∈Lib.compactUpTo d m,a<=d[m - 1]!)
 | 0,_=>by simp[Lib.compactUpTo]
 | m+1,hm=>by
  obtain⟨h1,h2,h3,h4⟩:=tv d hs m (by omega)
  rw[Lib.compactUpTo_succ]
  by_cases hk:Lib.keeps d m=true
  ·rw[if_pos hk]
   have hlt:∀a∈Lib.compactUpTo d m,a<d[m]! :=by
    intro a ha
    obtain⟨j,hj,_⟩:=h2 a ha
    have h5:=h4 (by omega) a ha
    have h6:=hs (m - 1) (by omega)
    rw[show m - 1+1=m from by omega] at h6
    have h7:¬d[m]! =d[m - 1]! :=by
     unfold Lib.keeps at hk
     have:=of_decide_eq_true hk
     rcases this with h | h
     ·omega
     exact h
    omega
   refine⟨List.pairwise_append.2 ⟨h1,List.pairwise_singleton _ _,fun a ha b hb=>by rw[cB] at hb;rw[hb];exact hlt a ha⟩,?_,?_,?_⟩
   ·intro a ha
    rcases dD.1 ha with ha | ha
    ·obtain⟨j,hj,e⟩:=h2 a ha;exact⟨j,by omega,e⟩
    rw[cB] at ha;exact⟨m,by omega,ha.symm⟩
   ·intro j hj
    by_cases e:j=m
    ·subst e;simp
    exact gT _ (h3 j (by omega))
   intro _ a ha
   rw[rc]
   rcases dD.1 ha with ha | ha
   ·have:=hlt a ha;omega
   rw[cB] at ha;omega
  rw[if_neg hk,eu]
  have hne:m≠0/\d[m]! =d[m - 1]! :=by
   unfold Lib.keeps at hk
   have hk:¬(m=0\/d[m]! ≠d[m - 1]!):=by simpa using hk
   constructor
   ·exact fun e=>hk (.inl e)
   by_cases e:d[m]! =d[m - 1]!
   ·exact e
   exact absurd (.inr e) hk
  refine⟨h1,fun a ha=>?_,fun j hj=>?_,fun _ a ha=>?_⟩
  ·obtain⟨j,hj,e⟩:=h2 a ha;exact⟨j,by omega,e⟩
  ·by_cases e:j=m
   ·subst e;rw[hne.2];exact h3 _ (by omega)
   exact h3 j (by omega)
  rw[rc,hne.2];exact h4 (by omega) a ha
theorem yg {zs:List Int} (h:zs.Pairwise (·<=·)):(Lib.compact zs).Pairwise (· < ·)/\∀a,a∈Lib.compact zs↔a∈zs:=by
 have key:∀i (hi:i<zs.length),zs.toArray[i]! =zs[i]:=fun i hi=>by simp[hi]
 obtain⟨h1,h2,h3,_⟩:=tv zs.toArray (fun i hi=>by
  have hi:i+1<zs.length:=by simpa using hi
  rw[key i (by omega),key (i+1) hi]
  exact List.pairwise_iff_getElem.1 h i (i+1) (by omega) hi (by omega)) zs.length (by simp)
 refine⟨h1,fun a=>⟨fun ha=>?_,fun ha=>?_⟩⟩
 ·obtain⟨j,hj,e⟩:=h2 a ha
  rw[key j hj] at e
  exact e▸da hj
 obtain⟨j,hj,e⟩:=cg ha
 have:=h3 j hj
 rw[key j hj,e] at this
 exact this
theorem D1 {zs:List Int} {a:Int} (h:a∈Lib.compact zs):a∈zs:=by
 unfold Lib.compact Lib.compactUpTo at h
 obtain⟨j,hj,e⟩:=lm.1 h
 have hj:=kV.1 (List.mem_filter.1 hj).1
 have:zs.toArray[j]! =zs[j]:=by simp[hj]
 rw[this] at e
 exact e▸da hj
def mo (xs:List Int):List Int:=xs.mergeSort fun x y=>decide (x<=y)
theorem wZ {xs:List Int} {a:Int} :a∈mo xs↔a∈xs:=List.mem_mergeSort
theorem zx (xs:List Int):(mo xs).Pairwise (·<=·):=by
 have:=List.pairwise_mergeSort (le:=fun x y:Int=>decide (x<=y)) (by intro a b c;simp;omega) (by intro a b;simp;omega) xs
 exact this.imp (by intro a b h;simpa using h)
theorem BK {B:Nat} {w0 w:World} {H:List aJ} {A:Option Addr} {m c:Nat} {xs:List Int} (h:Cw B w0 (ak (.slice A m c) xs::H) w) (hm:0<m) (hi:∀x∈xs,aH x) :
  Calls Tryz.prog 167 #[.slice A m c] w fun e w'=> ∃_:Unit,True/\e= .returned (.tuple #[])/\Cw B w0 (ak (.slice A m c) (mo xs)::H) w':=by
 obtain⟨F,ho,_⟩:=h.head
 have hsl:=cL.sl (show cL w F _ xs from ho)
 obtain⟨b,o,rfl⟩:=hsl.addr hm
 obtain⟨h1,h2,h3,h4,h5⟩:=zL (show cL w F _ xs from ho)
 have hb:=bE hsl
 have:=D5 fun D=>AnyS.slices_Sort_int_in Bf D b o c xs w h5 h4 (by omega)
 rw[h1] at this
 refine this.mono ?_
 rintro e w' ⟨rfl,n,os,rfl⟩
 exact⟨(),trivial,rfl,h.putInts (by rw[List.length_mergeSort,h1]) (fun y hy=>hi y (List.mem_mergeSort.1 hy)) n os⟩
theorem vE {B:Nat} {w0 w:World} {H:List aJ} {A:Option Addr} {m c:Nat} {xs:List Int} (h:Cw B w0 (ak (.slice A m c) xs::H) w) (hm:0<m) (hi:∀x∈xs,aH x) :
  Calls Tryz.prog 168 #[.slice A m c] w fun e w'=> ∃_:Unit,True/\e= .returned (.slice A (Lib.compact xs).length c)/\Cw B w0 (ak (.slice A (Lib.compact xs).length c) (Lib.compact xs)::H) w':=by
 obtain⟨F,ho,_⟩:=h.head
 have hsl:=cL.sl (show cL w F _ xs from ho)
 obtain⟨b,o,rfl⟩:=hsl.addr hm
 obtain⟨h1,h2,h3,h4,h5⟩:=zL (show cL w F _ xs from ho)
 have hb:=bE hsl
 have:=Any.slices_Compact_int ql b o c xs w h5 (by omega) (by omega)
 rw[h1] at this
 refine this.mono ?_
 rintro e w' ⟨rfl,q,rfl⟩
 have hle:=Lib.compact_length_le xs
 refine⟨(),trivial,rfl,?_⟩
 have:=h.putInts (ys:=Lib.compact xs++List.replicate (m - (Lib.compact xs).length) 0) (by simp;omega) (fun y hy=>by
  rcases dD.1 hy with hy | hy
  ·exact hi y (D1 hy)
  rw[List.eq_of_mem_replicate hy];unfold aH;omega) q #[]
 rw[grow_empty] at this
 have:=ri (k:=(Lib.compact xs).length) (by omega) this
 rw[List.take_left'] at this
 ·exact this
 rfl
end
