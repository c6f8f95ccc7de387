/- Lemmas of one proof. -/
import Derived.Test.YthfkmcbblnbfaaaGreatDoorM90W
import Derived.Test.YthfkmcbblnbfaaaGreatDoorM0W
import Derived.Ground.NamesProg
import Derived.Ground.Names2Prog
import Derived.Shelf.Sort.AssemblyIn
import Derived.Shelf.Slices.CompactI
import Derived.Lib.RowBridge
import Derived.Test.YthfkmcbblnbfaaaGreatDoorM19W

namespace Go.Proofs.YthfkmcbblnbfaaaGreatDoor
set_option maxRecDepth 100000
set_option maxHeartbeats 16000000
section
open Go.Shelf
def xT:Go.Shelf.Ren:=⟨fun | 189=>167 | 125=>220 | 257=>219 | 128=>273 | 129=>274 | 294=>264 | 295=>265 | 296=>266 | 297=>267 | 298=>268 | 299=>269 | 216=>270 | 300=>271 | 301=>272 | 328=>305 | 329=>306 | 330=>307 | 331=>308 | 332=>309 | 215=>310 | 343=>319 | n=>n,fun | 28=>35 | 3=>3 | 46=>180 | 0=>0 | 51=>278 | 53=>286 | 4=>4 | 183=>303 | 182=>302 | 131=>134 | 5=>5 | 9=>9 | 218=>332 | 222=>124 | 228=>347 | 229=>348 | n=>n,fun | n=>n⟩
theorem Dw:Go.Proofs.Lays.n189 Tryz.prog xT:= {
 mixed:=φ,f125:=χ Tryz.func220,f128:=χ Tryz.func273,f129:=χ Tryz.func274,f189:=χ Tryz.func167,f215:=χ Tryz.func310,f216:=χ Tryz.func270,f257:=χ Tryz.func219,
 f294:=χ Tryz.func264,f295:=χ Tryz.func265,f296:=χ Tryz.func266,f297:=χ Tryz.func267,f298:=χ Tryz.func268,f299:=χ Tryz.func269,f300:=χ Tryz.func271,
 f301:=χ Tryz.func272,f328:=χ Tryz.func305,f329:=χ Tryz.func306,f330:=χ Tryz.func307,f331:=χ Tryz.func308,f332:=χ Tryz.func309,f343:=χ Tryz.func319,
 t0:=Tryz.underlying0,a0:=Tryz.isAgg0,z0:=Tryz.sizeOf0,v0:=Tryz.zeroValue0,t3:=Tryz.underlying3,a3:=Tryz.isAgg3,z3:=Tryz.sizeOf3,v3:=Tryz.zeroValue3,t4:=Tryz.underlying4,a4:=Tryz.isAgg4,z4:=Tryz.sizeOf4,v4:=Tryz.zeroValue4,t5:=Tryz.underlying5,a5:=Tryz.isAgg5,z5:=Tryz.sizeOf5,v5:=Tryz.zeroValue5,t9:=Tryz.underlying9,a9:=Tryz.isAgg9,z9:=Tryz.sizeOf9,
 v9:=Tryz.zeroValue9,t28:=Tryz.underlying35,a28:=Tryz.isAgg35,z28:=Tryz.sizeOf35,v28:=Tryz.zeroValue35,t46:=Tryz.underlying180,a46:=Tryz.isAgg180,z46:=Tryz.sizeOf180,v46:=Tryz.zeroValue180,t51:=Tryz.underlying278,a51:=Tryz.isAgg278,z51:=Tryz.sizeOf278,v51:=Tryz.zeroValue278,t53:=Tryz.underlying286,a53:=Tryz.isAgg286,z53:=Tryz.sizeOf286,v53:=Tryz.zeroValue286,
 t131:=Tryz.underlying134,a131:=Tryz.isAgg134,z131:=Tryz.sizeOf134,v131:=Tryz.zeroValue134,t182:=Tryz.underlying302,a182:=Tryz.isAgg302,z182:=Tryz.sizeOf302,v182:=Tryz.zeroValue302,t183:=Tryz.underlying303,a183:=Tryz.isAgg303,z183:=Tryz.sizeOf303,v183:=Tryz.zeroValue303,t218:=Tryz.underlying332,a218:=Tryz.isAgg332,z218:=Tryz.sizeOf332,v218:=Tryz.zeroValue332,
 t222:=Tryz.underlying124,a222:=Tryz.isAgg124,z222:=Tryz.sizeOf124,v222:=Tryz.zeroValue124,t228:=Tryz.underlying347,a228:=Tryz.isAgg347,z228:=Tryz.sizeOf347,v228:=Tryz.zeroValue347,t229:=Tryz.underlying348,a229:=Tryz.isAgg348,z229:=Tryz.sizeOf348,v229:=Tryz.zeroValue348}
def vA:Go.Shelf.Ren:=⟨fun | 20=>168 | n=>n,fun | 22=>35 | 3=>3 | 4=>4 | 0=>0 | n=>n,fun | n=>n⟩
theorem su:Go.Proofs.Lays2.n20 Tryz.prog vA:= {
 mixed:=φ,f20:=χ Tryz.func168,t0:=Tryz.underlying0,a0:=Tryz.isAgg0,z0:=Tryz.sizeOf0,v0:=Tryz.zeroValue0,t3:=Tryz.underlying3,a3:=Tryz.isAgg3,z3:=Tryz.sizeOf3,v3:=Tryz.zeroValue3,t4:=Tryz.underlying4,a4:=Tryz.isAgg4,z4:=Tryz.sizeOf4,v4:=Tryz.zeroValue4,t22:=Tryz.underlying35,a22:=Tryz.isAgg35,z22:=Tryz.sizeOf35,
 v22:=Tryz.zeroValue35,i3:=by kernel_rfl}
end
section
open Go.RowKit Go.Shelf Go.Sort
theorem GR {L:List FuncId} {n:Nat} {P:Program} {f:FuncId} {args:Array Value} {w:World} {R:Ending->World->Prop} (h:∀D,CallsIn (Fence.list L (some D)) n P f args w R):Calls P f args w R:=fun a=>by
 obtain⟨b,k,d,i,j,l⟩:=(h (a.length+n+1)).2 a (fun p e=>by cases e;omega);exact⟨b,k,d,i,j.comes,l⟩
section
variable {B:Nat} {w0 w:World} {H:List aO} {g o m c:Nat} {xs ys:List Int} {F:Nat->Prop}
theorem Lb (h:da w F (ac (some ⟨g,o,none⟩) m c) xs):∃b a,gK w F (ac (some ⟨g,o,none⟩) m c) xs g o c b a/\xs.length=m:=by
 rcases h with ⟨h,_⟩ | ⟨p,q,l,b,a,h⟩
 ·cases h
 have k:=h.hv;injection k with d e f
 injection d with d
 injection d with i j n
 subst e f i j;exact⟨b,a,h,rfl⟩
theorem CA (h:da w F (ac (some ⟨g,o,none⟩) m c) xs):xs.length=m/\m<=c/\c<=maxLen/\g<w.heap.size/\Holds (Value.int .i64) w g o xs.toArray:=by
 obtain⟨k,j,h,e⟩:=Lb h;refine⟨e,e▸h.hn,h.hc,h.lt,fun d a=>?_⟩;have a:d<xs.length:=ψ a;have f:=(h.el d xs[d] (aq a)).1.1;refine⟨?_,h.frozen _⟩;rw[h.cell];have b:=congrArg (fun i=>i[0]?) f;simp only[hU _ _ _ _ (show 0<aG.k Int from Nat.one_pos)] at b;have:aG.k Int=1:=rfl;rw[this,qs,zx] at b;rw[b];simp[a]
theorem Cw.putInts (h:Cw B w0 (an (ac (some ⟨g,o,none⟩) m c) xs::H) w) (u:ys.length=m) (hi:∀y∈ys,aI y) (q:Nat) (i:Array Obj) :
  Cw B w0 (an (ac (some ⟨g,o,none⟩) m c) ys::H) (grow (putRow (Value.int .i64) (Sort.ahead w q) g o ys.toArray) i):=by
 refine h.upd fun F x E=>?_;obtain⟨f,D,h,J⟩:=Lb (show da w F _ xs from x);have v:=h.lt;have l:∀a,a<w.heap.size->(grow (putRow (Value.int .i64) (Sort.ahead w q) g o ys.toArray) i).heap[a]? =(w.heap.modify g (onCells (putCells (Value.int .i64) o ys.toArray)))[a]? :=by
  intro a b;show (((w.heap.modify g _)++i):Array Obj)[a]? =_;rw[Array.getElem?_append_left (ψ b)]
 have A:(putCells (Value.int .i64) o ys.toArray f).size=f.size:=by simp[putCells]
 have t:aG.k Int=1:=rfl;have z:=h.hs;have:=h.hn;refine⟨F,.inr ⟨g,o,c,putCells (Value.int .i64) o ys.toArray f,fun _ _=>False,⟨by rw[u],?_,ω,h.hc,by rw[A];exact z,by have:=h.hl;omega,?_,?_,fun _ _ h=>h,fun _ _ _ _ _ h=>h.elim⟩⟩,rfl,rfl,rfl,?_,?_,fun a b=> .inl b⟩
 ·rw[l g v,Array.getElem?_modify,if_pos rfl,h.hg];rfl
 ·intro e C k;have s:=(bt.1 k).1;refine⟨⟨?_,hi C (fQ k)⟩,fun _ h=>h⟩
  apply fI
  intro n;rw[t] at *
  by_cases G:n<1
  ·obtain rfl:n=0:=ω;rw[hU _ _ _ _ ω];have:o+e*1+0<f.size:=ω;simp only[putCells,Array.getElem?_mapIdx,ke this,Option.map_some];rw[if_pos (by simp;omega)];have j:o+e*1+0 - o=e:=ω;rw[j];have:=(bt.1 k).2;simp[s,this]
  rw[bh (by rw[aB];omega),bh (by simp;omega)]
 ·intro a;rw[h.hF a];constructor
  ·rintro(d | ⟨e,r,b⟩)
   ·exact .inl d
   exact((h.el e _ (aq r)).2 a b).elim
  rintro(d | ⟨_,_,d⟩)
  ·exact .inl d
  exact d.elim
 ·show w.heap.size<=((w.heap.modify g _)++i:Array Obj).size;simp
 intro a b p;rw[l a b,Array.getElem?_modify,if_neg (fun j=>p ((h.hF a).2 (.inl j.symm)))]
end
theorem vR (d:Array Int) (s:∀i,i+1<d.size->d[i]! <=d[i+1]!):∀m,m<=d.size->(Lib.compactUpTo d m).Pairwise (· < ·)/\(∀a∈Lib.compactUpTo d m,∃j,j<m/\d[j]! =a)/\(∀j,j<m->d[j]! ∈Lib.compactUpTo d m)/\(0<m->∀a∈Lib.compactUpTo d m,a<=d[m - 1]!)
 | 0,_=>by simp[Lib.compactUpTo]
 | m+1,y=>by
  obtain⟨l,h2,h,n⟩:=vR d s m ω;rw[Lib.compactUpTo_succ]
  by_cases e:Lib.keeps d m=true
  ·rw[if_pos e];have q:∀a∈Lib.compactUpTo d m,a<d[m]! :=by
    intro a ha;obtain⟨j,f,_⟩:=h2 a ha;have:=n ω a ha;have t:=s (m - 1) ω;rw[show m - 1+1=m from by omega] at t;have:¬d[m]! =d[m - 1]! :=by
     unfold Lib.keeps at e;have:=of_decide_eq_true e;rcases this with k | k
     ·omega
     exact k
    omega
   refine⟨List.pairwise_append.2 ⟨l,List.pairwise_singleton _ _,fun a ha u p=>by rw[cN] at p;rw[p];exact q a ha⟩,?_,?_,?_⟩
   ·intro a ha;rcases dU.1 ha with ha | ha
    ·obtain⟨j,f,b⟩:=h2 a ha;exact⟨j,ω,b⟩
    rw[cN] at ha;exact⟨m,ω,ha.symm⟩
   ·intro j f
    by_cases b:j=m
    ·subst b;simp
    exact iH _ (h j ω)
   intro _ a ha;rw[tG];rcases dU.1 ha with ha | ha
   ·have:=q a ha;omega
   rw[cN] at ha;omega
  rw[if_neg e,et];have r:m≠0/\d[m]! =d[m - 1]! :=by
   unfold Lib.keeps at e;have e:¬(m=0\/d[m]! ≠d[m - 1]!):=ψ e;constructor
   ·exact fun b=>e (.inl b)
   by_cases b:d[m]! =d[m - 1]!
   ·exact b
   exact absurd (.inr b) e
  refine⟨l,fun a ha=>?_,fun j f=>?_,fun _ a ha=>?_⟩
  ·obtain⟨j,f,b⟩:=h2 a ha;exact⟨j,ω,b⟩
  ·by_cases b:j=m
   ·subst b;rw[r.2];exact h _ ω
   exact h j ω
  rw[tG,r.2];exact n ω a ha
theorem AY {d:List Int} (h:d.Pairwise (·<=·)):(Lib.compact d).Pairwise (· < ·)/\∀a,a∈Lib.compact d↔a∈d:=by
 have k:∀b (e:b<d.length),d.toArray[b]! =d[b]:=fun b e=>by simp[e]
 obtain⟨l,n,p,_⟩:=vR d.toArray (fun b e=>by
  have e:b+1<d.length:=ψ e;rw[k b ω,k (b+1) e];exact List.pairwise_iff_getElem.1 h b (b+1) ω e ω) d.length σ
 refine⟨l,fun a=>⟨fun ha=>?_,fun ha=>?_⟩⟩
 ·obtain⟨j,f,i⟩:=n a ha;rw[k j f] at i;exact i▸cV f
 obtain⟨j,f,i⟩:=cC ha;have:=p j f;rw[k j f,i] at this;exact this
theorem GN {d:List Int} {a:Int} (h:a∈Lib.compact d):a∈d:=by
 unfold Lib.compact Lib.compactUpTo at h;obtain⟨f,b,e⟩:=jR.1 h;have b:=jj.1 (qZ.1 b).1;have:d.toArray[f]! =d[f]:=by simp[b]
 rw[this] at e;exact e▸cV b
def nU (xs:List Int):List Int:=xs.mergeSort fun x y=>decide (x<=y)
theorem zH {xs:List Int} {a:Int} :a∈nU xs↔a∈xs:=List.mem_mergeSort
theorem Cn (xs:List Int):(nU xs).Pairwise (·<=·):=by
 have:=List.pairwise_mergeSort (le:=fun e f:Int=>decide (e<=f)) (by intro a b c;simp;omega) (by intro a b;simp;omega) xs;exact this.imp (by intro a b d;simpa using d)
theorem Ea {B:Nat} {w0 w:World} {H:List aO} {A:Option Addr} {m c:Nat} {xs:List Int} (h:Cw B w0 (an (ac A m c) xs::H) w) (l:0<m) (hi:∀x∈xs,aI x) :
  Calls Tryz.prog 167 #[ac A m c] w fun e w'=> ∃_:Unit,True/\e= .returned (.tuple #[])/\Cw B w0 (an (ac A m c) (nU xs)::H) w':=by
 obtain⟨F,b,_⟩:=h.head;have d:=da.sl (show da w F _ xs from b);obtain⟨i,o,rfl⟩:=d.addr l;obtain⟨a,s,t,j,k⟩:=CA (show da w F _ xs from b);have:=bx d;have:=GR fun f=>AnyS.slices_Sort_int_in Dw f i o c xs w k j ω;rw[a] at this;refine this.mono ?_;rintro e w' ⟨rfl,p,q,rfl⟩;exact⟨(),trivial,rfl,h.putInts (by rw[List.length_mergeSort,a]) (fun r n=>hi r (List.mem_mergeSort.1 n)) p q⟩
theorem yl {B:Nat} {w0 w:World} {H:List aO} {A:Option Addr} {m c:Nat} {xs:List Int} (h:Cw B w0 (an (ac A m c) xs::H) w) (l:0<m) (hi:∀x∈xs,aI x) :
  Calls Tryz.prog 168 #[ac A m c] w fun e w'=> ∃_:Unit,True/\e= .returned (ac A (Lib.compact xs).length c)/\Cw B w0 (an (ac A (Lib.compact xs).length c) (Lib.compact xs)::H) w':=by
 obtain⟨F,b,_⟩:=h.head;have d:=da.sl (show da w F _ xs from b);obtain⟨f,o,rfl⟩:=d.addr l;obtain⟨i,q,r,s,j⟩:=CA (show da w F _ xs from b);have:=bx d;have:=Any.slices_Compact_int su f o c xs w j ω ω;rw[i] at this;refine this.mono ?_;rintro e w' ⟨rfl,n,rfl⟩;have:=Lib.compact_length_le xs;refine⟨(),trivial,rfl,?_⟩;have:=h.putInts (ys:=Lib.compact xs++List.replicate (m - (Lib.compact xs).length) 0) (by simp;omega) (fun p a=>by
  rcases dU.1 a with a | a
  ·exact hi p (GN a)
  rw[List.eq_of_mem_replicate a];unfold aI;omega) n #[]
 rw[grow_empty] at this;have:=tL (k:=(Lib.compact xs).length) ω this;rw[List.take_left'] at this
 ·exact this
 rfl
end
