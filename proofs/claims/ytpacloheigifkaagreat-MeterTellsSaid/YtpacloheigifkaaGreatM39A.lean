/- Texts of one proof, one behind the other: lemmas alone. -/
import Derived.Test.YtpacloheigifkaaGreatM0A
import Derived.Test.YtpacloheigifkaaGreatM38A
import Derived.Test.YtpacloheigifkaaGreatM35A
import Derived.Test.YtpacloheigifkaaGreatM22A
import Derived.Test.YtpacloheigifkaaGreatM25A
import Derived.Test.YtpacloheigifkaaGreatM32A
import Derived.Test.YtpacloheigifkaaGreatM18A
import Derived.Test.YtpacloheigifkaaGreatM14A
import Derived.Test.YtpacloheigifkaaGreatM34A
import Derived.Test.YtpacloheigifkaaGreatM28A
import Derived.Test.YtpacloheigifkaaGreatM23A

namespace Go.Proofs.YtpacloheigifkaaGreat
open Go.RowKit
section
theorem mr {z:Int} (h:cH z=true):aX z:=by
 unfold cH at h
 simp only[Bool.and_eq_true,decide_eq_true_eq] at h
 unfold aX
 omega
theorem hJ (z:Int):aX (cy z).n:=mr (pS z)
set_option maxRecDepth 100000 in
theorem gU (z:Int) (hz:aX z) (w:World):Calls Tryz.prog 77 #[.int .i64 z] w fun e w'=>e= .returned (.agg #[.bool (cy z).ref,.int .i64 (cy z).n])∧Below w.heap.size w w':=by
 refine enter Tryz.func77 rfl Tryz.ntmps77 rfl ?_
 refine ac<|aa<|ag (aZ bq rfl rfl) rfl rfl (fun g1 _=>?_)
 refine ae<|ac<|aa<|rn 1 [2,3] rfl<|ag (br rfl rfl rfl Tryz.call78 (fun w hw=>(wx z w hz).mono fun e w' h=>by obtain⟨h1,rfl⟩:=h;exact⟨h1,Below.refl _ _⟩)) rfl rfl (fun _ _=>?_)
 refine af (cq (cs:= [_,_]) ko bq rfl rfl (by rfl)) rfl rfl ?_
 refine ag (aG _ fc aD rfl rfl rfl rfl rfl (by rfl) rfl (by rfl)) rfl rfl (fun _ _=>?_)
 refine ae<|av<|aB Tryz.results77 (du (cs:= [_,_]) fc db aD rfl) ?_
 intro w hw
 exact⟨rfl,hw.below⟩
section
variable {B:Nat} {w0:World} {H:List bj}
set_option maxRecDepth 100000 in
set_option maxHeartbeats 1000000 in
theorem kK (gs gn go n nb:Nat) (As Ab:Option Addr) (cs cb:Nat) (x0 x2 x3 x4 x5:Value) (s:List aM) (bs:List (List Int)) (back:Nat) (v:aM) (hn:s.length=n) (hnb:bs.length=nb) (hb:1≤back∧back≤n) (hvs:s.getD (n - back) default=v) (hv:0≤v.n∧v.n≤bs.length) (w:World)
  (hw:Cw B w0 (am go [x0,.slice Ab nb cb,x2,x3,x4,x5] 29::am gs [.slice As n cs] 95::am gn [.int .i64 (n:Int)] 3::ak (.slice As n cs) s::ak (.slice Ab nb cb) bs::H) w) :
  Calls Tryz.prog 79 #[.int .i64 (back:Int),.pointer (some ⟨gs,0,none⟩),.pointer (some ⟨gn,0,none⟩),.pointer (some ⟨go,0,none⟩)] w fun e w'=>
   ∃g:Option Addr×Nat,True∧e= .returned (.tuple #[.slice g.1 (if v.n=0 then 0 else (blk bs v.n).length) g.2,.bool (!decide (v.n=0))])∧Cw B w0 (am go [x0,.slice Ab nb cb,x2,x3,x4,x5] 29::am gs [.slice As n cs] 95::am gn [.int .i64 (n:Int)] 3::ak (.slice As n cs) s::(if v.n=0 then ak (.slice Ab nb cb) bs else na (.slice Ab nb cb) bs (v.n - 1).toNat (.slice g.1 (blk bs v.n).length g.2))::H) w':=by
 have b1:n≤140737488355328:=bV (SF.at_ (SF.own (xs:=s) hn (.s (.s (.s .a)))) hw)
 have hvb:0≤(s.getD (n - back) default).n∧(s.getD (n - back) default).n≤nb:=by rw[hvs];omega
 have b2:nb≤140737488355328:=bV (SF.at_ (SF.own (xs:=bs) hnb (.s (.s (.s (.s .a))))) hw)
 refine cY Tryz.func79 rfl Tryz.ntmps79 rfl hw ?_
 refine ac<|aa<|rn 2 [0,1,2,3] rfl<|ae<|ac<|ac<|aa<|af (ai fc a5 rfl rfl (by rfl)) rfl rfl ?_
 refine af (ai fc aq rfl rfl (by rfl)) rfl rfl ?_
 refine rn 1 [0,1,2,3,7,8,9] rfl<|af (bt rfl rfl rfl (by omega)) rfl rfl<|bG (t:=10) (v':= .int .i64 ((n - back:Nat):Int)) rfl (by congr 1;omega) ?_
 refine af (aQ (k:=(n - back)) aw aD (SF.own (xs:=s) hn fc) (by omega) rfl rfl rfl) rfl rfl ?_
 refine rn 1 [0,1,2,3,12] rfl<|af (a9 (fun w hw=>(SF.val (SF.own (xs:=s) hn fc) (show n - back<n by omega) default) w hw 1 _ rfl) rfl rfl aq) rfl rfl ?_
 refine rn 1 [0,1,2,3,14] rfl<|ae ?_
 rw[hvs]
 refine ay rfl (fun h0=>?_) (fun h0=>?_)
 ·have h0:v.n=0:=h0
  refine ac<|aa<|rn 2 [5,6] rfl<|ae<|av (aj ?_)
  refine bF Tryz.results79 (ap rfl) (ap rfl) ?_
  intro w hw
  refine⟨(none,0),trivial,?_,?_⟩
  ·rw[if_pos h0,decide_eq_true h0];rfl
  rw[if_pos h0];exact hw.msub ms
 obtain⟨k,hk⟩:∃k:Nat,(v.n - 1).toNat=k:=⟨_,rfl⟩
 have h0:¬v.n=0:=h0
 refine xB (A:=Ab) (m:=nb) (c:=cb) (xs:=bs) k fc (by omega) fun A' c'=>?_
 refine az (au ?_)
 refine ac<|fm (.still 0 (.still 1 (.still 2 (.still 3 (.still 4 (.still 5 (.still 6 (.still 7 (.still 8 (.still 9 (.still 10 (.still 11 (.still 12 (.still 13 .done)))))))))))))) [] rfl (by kernel_rfl) (by kernel_rfl) [na (.slice Ab nb cb) bs k (.slice A' (bs.getD k []).length c'),am go [x0,.slice Ab nb cb,x2,x3,x4,x5] 29,am gs [.slice As n cs] 95,am gn [.int .i64 (n:Int)] 3,ak (.slice As n cs) s] ?_
 refine aW ha 1 [0,1,2,15] rfl<|an rfl (ai fc ed rfl rfl (by rfl)) rfl rfl ha ?_
 refine an rfl (ai fc a5 rfl rfl (by rfl)) rfl rfl ha ?_
 refine an rfl (ai fc aq rfl rfl (by rfl)) rfl rfl ha ?_
 refine aW ha 1 [16,17,18,19] rfl<|an rfl (bt rfl rfl rfl (by omega)) rfl rfl ha ?_
 refine cG (t:=20) (v':= .int .i64 ((n - back:Nat):Int)) rfl (by congr 1;omega) ?_
 refine an rfl (aQ (k:=(n - back)) aw aD (SF.own (xs:=s) hn fc) (by omega) rfl rfl rfl) rfl rfl ha ?_
 refine aW ha 1 [16,22] rfl<|an rfl (a9 (fun w hw=>(SF.val (SF.own (xs:=s) hn fc) (show n - back<n by omega) default) w hw 1 _ rfl) rfl rfl aq) rfl rfl ha ?_
 refine an rfl (bt rfl rfl rfl (by omega)) rfl rfl ha ?_
 rw[hvs]
 refine cG (t:=24) (v':= .int .i64 (k:Int)) rfl (by congr 1;omega) ?_
 refine an rfl (aQ (k:=k) b9 bW (SF.rino hnb fc) (by omega) rfl rfl rfl) rfl rfl ha ?_
 refine an rfl (rZ fc a7 rfl rfl) rfl rfl ha ?_
 refine aW ha 2 [5,6] rfl<|cA<|av<|bF Tryz.results79 (ap rfl) (ap rfl) ?_
 intro w hw
 refine⟨(A',c'),trivial,?_,?_⟩
 ·rw[if_neg h0,decide_eq_false h0];unfold blk;rw[hk];rfl
 rw[if_neg h0];unfold blk;rw[hk];exact hw.msub ms
end
set_option maxRecDepth 100000 in
set_option maxHeartbeats 1000000 in
theorem fy (a:MA) (m:aO) (why:Int) (_:1≤why∧why≤5) (w:World) (hm:d9 w.heap.size w a m) (hfit:qG m) :
  Calls Tryz.prog 80 #[.agg #[.slice a.Af m.frames.length a.cf,.slice a.Ab m.blocks.length a.cb,.slice a.Ai m.inn.length a.ci,.slice a.Ao m.out.length a.co,.int .i64 m.status,.int .i64 m.trap],.int .i64 why] w fun e w'=> ∃g:MA,True∧
   e= .returned (.agg #[.slice g.Af m.frames.length g.cf,.slice g.Ab m.blocks.length g.cb,.slice g.Ai m.inn.length g.ci,.slice g.Ao m.out.length g.co,.int .i64 3,.int .i64 why])∧
   Cw w.heap.size w [ak (.slice g.Af m.frames.length g.cf) m.frames,ak (.slice g.Ab m.blocks.length g.cb) m.blocks,ak (.slice g.Ai m.inn.length g.ci) m.inn,ak (.slice g.Ao m.out.length g.co) m.out] w':=by
 refine enter Tryz.func80 rfl Tryz.ntmps80 rfl ?_
 refine ac<|aa<|ag (bH rfl rfl rfl) rfl rfl (fun g1 _=>?_)
 refine ag (aZ a6 rfl rfl) rfl rfl (fun g2 _=>?_)
 refine ae<|ac<|aa<|af (aL (vs:= [_,_,_,_,_,_]) fc aR aA rfl rfl (by rfl) rfl) rfl rfl ?_
 refine ag (cI rfl rfl rfl Cv (fun w hw=>kJ a m w (hm.ro hw) hfit)) rfl rfl (fun ga _=>?_)
 refine ag (aZ a6 rfl rfl) rfl rfl (fun g3 _=>?_)
 refine ag (aG _ fc aA rfl rfl rfl rfl rfl (by rfl) rfl (by rfl)) rfl rfl (fun _ _=>?_)
 refine ae<|ac<|aa<|rn 2 [4,5,8,9] rfl<|ag (aG _ fc aH rfl rfl rfl rfl rfl (by rfl) rfl (by rfl)) rfl rfl (fun _ _=>?_)
 refine rn 1 [4,5,8,10] rfl<|ag (aG _ fc aH rfl rfl rfl rfl rfl (by rfl) rfl (by rfl)) rfl rfl (fun _ _=>?_)
 refine ae<|ac<|aa<|af (aL (vs:= [_,_,_,_,_,_]) fc aR aA rfl rfl (by rfl) rfl) rfl rfl ?_
 refine ag (aG _ fc aA rfl rfl rfl rfl rfl (by rfl) rfl (by rfl)) rfl rfl (fun _ _=>?_)
 refine ae<|av<|aB Tryz.results80 (du (cs:= [_,_,_,_,_,_]) fc aR aA rfl) ?_
 intro w hw
 exact⟨ga,trivial,rfl,hw.msub ms⟩
end
section
theorem kv (s:List aM):dl s <+: s:=List.dropLast_prefix s
theorem mv (s:List aM):dl (dl s) <+: s:=(kv _).trans (kv _)
theorem Bd (s:List aM):dl (dl (dl s)) <+: s:=(kv _).trans (mv _)
theorem og (s:List aM):(dl (dl s)).length=s.length - 2:=by rw[fC,fC];omega
theorem Be (s:List aM):(dl (dl (dl s))).length=s.length - 3:=by rw[fC,fC,fC];omega
section
variable {P:Program} {n:NF} {B:Nat} {w0:World} {H H':List bj} {Q:Exit→Act→World→Prop} {env:cU} {x:Code} {ops:Array Oper} {os:List Oper} {Hq:List bj} {fin:List Nat} {r:gu}
theorem qy {α:Type} [Ow α] {A:Option Addr} {c:Nat} {s t:List α} (ht:t <+: s) {w:World} (h:Cw B w0 (ak (.slice A s.length c) s::H) w):Cw B w0 (ak (.slice A t.length c) t::H) w:=by
 have:=l8 (k:=t.length) ht.length_le h
 rwa [←List.prefix_iff_eq_take.1 ht] at this
theorem ma {α:Type} [Ow α] {A:Option Addr} {c:Nat} {s:List α} (t:List α) (hp:cV H (ak (.slice A s.length c) s) H') (ht:t <+: s) (h:RW P n B w0 ops Q os env (ak (.slice A t.length c) t::H')):RW P n B w0 ops Q os env H:=iX (fun _ hw=>qy ht (hw.perm hp)) h
theorem py {α:Type} [Ow α] {A:Option Addr} {c:Nat} {s:List α} (t:List α) (hp:cV H (ak (.slice A s.length c) s) H') (ht:t <+: s) (h:RO P n B w0 ops Q Hq fin r env (ak (.slice A t.length c) t::H')):RO P n B w0 ops Q Hq fin r env H:=pz (fun _ hw=>qy ht (hw.perm hp)) h
end
theorem Cd {s:List aM} (h:1≤s.length):dl s++ [aK s,aK s]=s++ [aK s]:=by
 obtain⟨a,v1,rfl⟩:=dh (l:=s) h
 rw[dq,cM,List.append_assoc]
 rfl
theorem qr {s:List aM} (h:2≤s.length):(s.set (s.length - 1) (aK (dl s))).set (s.length - 2) (aK s)=dl (dl s)++ [aK s,aK (dl s)]:=by
 obtain⟨a0,v1,rfl⟩:=dh (l:=s) (by omega)
 obtain⟨a,v2,rfl⟩:=dh (l:=a0) (by rw[List.length_append,List.length_singleton] at h;omega)
 rw[cM,dq,cM,dq,List.append_assoc]
 have e:(a++([v2]++ [v1])).length=a.length+2:=by simp
 rw[e,List.set_append_right _ _ (by omega),List.set_append_right _ _ (by omega),show a.length+2 - 1 - a.length=1 from by omega,show a.length+2 - 2 - a.length=0 from by omega]
 rfl
theorem kU {s:List aM} (h:1≤s.length) (v:aM):s.set (s.length - 1) v=dl s++ [v]:=by
 obtain⟨a,v1,rfl⟩:=dh (l:=s) h
 rw[dq,List.length_append,List.length_singleton,oT a v1 v (by omega)]
structure iU (B:Nat) (w0:World) (fs:List aE) (m:aO) (a:MA) (li:List (aJ×aT)) (k:Nat) (Ap:Option Addr) (cp:Nat) (f p0 p1:Int) (l s:List aM) (o:bT) (fr:Int):Prop where
 hk:li.length=k
 hok:fw li
 hp:bS w0 B (.slice Ap fs.length cp) fs
 hm:d9 B w0 a m
 fit:qG m
 nd:m5 fs m.blocks.length ⟨f,p1,l,s⟩ o
 bl:cC m.blocks=0
 sl:s.length≤900
 ol:m.out.length≤1000
 k6:k≤1000
 hst:∀q∈li,q.2.stack.length≤1000
 oa:aX o.a
 pi:aX f∧aX p0∧aX p1
 si:∀v∈s,aX v.n
 lv:∀v∈l,aX v.n
 hms:aX m.status
 fn:0≤f∧f<fs.length∧fr=(ar fs f.toNat).result∧0≤fr
 mf:m.frames.length=k+1
 isn:o.c=19→0≤(aK s).n∧(aK s).n≤m.blocks.length
 of:be fs m=o
 fs:m.frames=li.map Prod.snd++ [⟨f,p0,l,s⟩]
 ib:m.inn.length≤1000
 ii:∀z∈m.inn,aX z
 sI:∀v∈s,v.n≤2147483647
section
variable {B:Nat} {w0:World} {Q:Exit→Act→World→Prop} (gp gm gr go gc gf gs gn k:Nat) (li:List (aJ×aT)) (A Al As Ap Ab Ai Ao:Option Addr) (c cl cs cp cb ci co:Nat) (a:MA) (m:aO) (f p0 p1 fr:Int) (l s:List aM) (o:bT) (fs:List aE) (rz:List Value) (fx0 fx1 fx3:Value) (hrz:rz.length=6)
set_option maxRecDepth 100000 in
set_option maxHeartbeats 2000000 in
theorem Du (R:iU B w0 fs m a li k Ap cp f p0 p1 l s o fr) (hc:o.c=1) (K:∀(s':List aM) (As':Option Addr) (cs':Nat) (l':List aM) (b':List (List Int)) (Ab':Option Addr) (cb':Nat) (i':List Int) (Ai':Option Addr) (ci':Nat) (o':List Int) (Ao':Option Addr) (co':Nat) (st' nx:Int),aX nx∧aX st'→bJ fs m (li.map Prod.snd) ⟨f,p1,l,s⟩ o= .inr ⟨li.map Prod.snd++ [⟨f,nx,l',s'⟩],b',i',o',st',m.trap⟩→XW ⟨551,[]⟩ B w0 Q .normal [(4,.pointer (some ⟨gr,0,none⟩)),(5,.pointer (some ⟨go,0,none⟩)),(6,.pointer (some ⟨ab A,ao A+k*4,none⟩)),(9,.pointer (some ⟨gs,0,none⟩)),(13,.int .i64 nx)] (am gs [.slice As' s'.length cs'] 95::ak (.slice As' s'.length cs') s'::am gr rz 29::am go [.slice A (k+1) c,.slice Ab' b'.length cb',.slice Ai' i'.length ci',.slice Ao' o'.length co',.int .i64 st',.int .i64 m.trap] 29::ak (.slice A (k+1) c) (li.map Prod.fst++ [(⟨f,p0,.slice Al l'.length cl,.slice As s.length cs⟩:aJ)])::ak (.slice Al l'.length cl) l'::cT li::ak (.slice Ab' b'.length cb') b'::ak (.slice Ai' i'.length ci') i'::ak (.slice Ao' o'.length co') o':: [])):CW Tryz.prog ⟨551,[]⟩ B w0 (il [true,true,true,true,true,true,true,true,true,true,true,false,true,false,true,false] (eH Tryz.f25)) Q [(4,.pointer (some ⟨gr,0,none⟩)),(5,.pointer (some ⟨go,0,none⟩)),(6,.pointer (some ⟨ab A,ao A+k*4,none⟩)),(7,.pointer (some ⟨gc,0,none⟩)),(9,.pointer (some ⟨gs,0,none⟩)),(11,.func (.func 77) #[] #[]),(13,.int .i64 p1)] [am gs [.slice As s.length cs] 95,ak (.slice As s.length cs) s,am gp [.slice Ap fs.length cp] 24,am gm [.slice a.Af m.frames.length a.cf,.slice a.Ab m.blocks.length a.cb,.slice a.Ai m.inn.length a.ci,.slice a.Ao m.out.length a.co,.int .i64 m.status,.int .i64 m.trap] 29,am gr rz 29,am go [.slice A (k+1) c,.slice Ab m.blocks.length cb,.slice Ai m.inn.length ci,.slice Ao m.out.length co,.int .i64 m.status,.int .i64 m.trap] 29,am gc [.int .i64 o.c,.int .i64 o.a] 49,am gf [fx0,fx1,.int .i64 fr,fx3] 110,am gn [.int .i64 (s.length:Int)] 3,ak (.slice A (k+1) c) (li.map Prod.fst++ [(⟨f,p0,.slice Al l.length cl,.slice As s.length cs⟩:aJ)]),ak (.slice Al l.length cl) l,cT li,ak (.slice Ab m.blocks.length cb) m.blocks,ak (.slice Ai m.inn.length ci) m.inn,ak (.slice Ao m.out.length co) m.out]:=by
 have hsl:=R.sl
 refine bN (.still 0 (.still 1 (.still 2 (.still 3 (.pick 4 (.pick 5 (.pick 6 (.pick 7 .done .stop) .stop) .stop) .stop))))) [6,7] rfl (by kernel_rfl) (by kernel_rfl) ?_
 refine an rfl (ai fc a5 rfl rfl (by rfl)) rfl rfl ha ?_
 refine aW ha 2 [4,5,6,9,13,68,69,70] rfl<|an rfl (ai fc aq rfl rfl (by rfl)) rfl rfl ha ?_
 refine aC rfl (gN rfl rfl rfl kH (fun w hw=>gU o.a R.oa w)) rfl rfl (.inr fun _=>ha) (fun _ _=>?_) ax
 refine aC rfl (bh (cs:= [_,_]) aw aD bq rfl rfl rfl rfl rfl) rfl rfl (.inr fun _=>ha) (fun g1 _=>?_) ax
 refine aC rfl (dv (α:=aM) (bytes:=16) (cy o.a) [] rfl aw (bO cZ) rfl (eu fc fc) (dB (hJ _)) (by omega) (by omega) rfl rfl rfl) rfl rfl (.inl rfl) (fun⟨A3,c3⟩ _=>?_) ax
 try dsimp only
 refine aC rfl (aG _ fc cS rfl rfl rfl rfl rfl (by rfl) rfl (by rfl)) rfl rfl (.inl rfl) (fun _ _=>?_) ax
 refine cd<|dN (K (s++ [cy o.a]) A3 c3 l m.blocks Ab cb m.inn Ai ci m.out Ao co m.status p1 ⟨R.pi.2.2,R.hms⟩ (by dsimp only[bJ];rw[if_pos hc])) ⟨rfl,rfl,rfl,rfl,rfl,trivial⟩ me
theorem oN (z:Int):aX (IntKind.i64.wrap z):=by
 rw[IntWalk.i64_left]
 unfold wrap64 aX
 omega
set_option maxRecDepth 100000 in
set_option maxHeartbeats 2000000 in
theorem Dt (R:iU B w0 fs m a li k Ap cp f p0 p1 l s o fr) (hc:o.c=2) (K:∀(s':List aM) (As':Option Addr) (cs':Nat) (l':List aM) (b':List (List Int)) (Ab':Option Addr) (cb':Nat) (i':List Int) (Ai':Option Addr) (ci':Nat) (o':List Int) (Ao':Option Addr) (co':Nat) (st' nx:Int),aX nx∧aX st'→bJ fs m (li.map Prod.snd) ⟨f,p1,l,s⟩ o= .inr ⟨li.map Prod.snd++ [⟨f,nx,l',s'⟩],b',i',o',st',m.trap⟩→XW ⟨551,[]⟩ B w0 Q .normal [(4,.pointer (some ⟨gr,0,none⟩)),(5,.pointer (some ⟨go,0,none⟩)),(6,.pointer (some ⟨ab A,ao A+k*4,none⟩)),(9,.pointer (some ⟨gs,0,none⟩)),(13,.int .i64 nx)] (am gs [.slice As' s'.length cs'] 95::ak (.slice As' s'.length cs') s'::am gr rz 29::am go [.slice A (k+1) c,.slice Ab' b'.length cb',.slice Ai' i'.length ci',.slice Ao' o'.length co',.int .i64 st',.int .i64 m.trap] 29::ak (.slice A (k+1) c) (li.map Prod.fst++ [(⟨f,p0,.slice Al l'.length cl,.slice As s.length cs⟩:aJ)])::ak (.slice Al l'.length cl) l'::cT li::ak (.slice Ab' b'.length cb') b'::ak (.slice Ai' i'.length ci') i'::ak (.slice Ao' o'.length co') o':: [])):CW Tryz.prog ⟨551,[]⟩ B w0 (il [true,true,true,true,true,true,true,true,true,true,true,false,true,false,true,true,true,false] (eH Tryz.f25)) Q [(4,.pointer (some ⟨gr,0,none⟩)),(5,.pointer (some ⟨go,0,none⟩)),(6,.pointer (some ⟨ab A,ao A+k*4,none⟩)),(9,.pointer (some ⟨gs,0,none⟩)),(10,.pointer (some ⟨gn,0,none⟩)),(13,.int .i64 p1)] [am gs [.slice As s.length cs] 95,ak (.slice As s.length cs) s,am gp [.slice Ap fs.length cp] 24,am gm [.slice a.Af m.frames.length a.cf,.slice a.Ab m.blocks.length a.cb,.slice a.Ai m.inn.length a.ci,.slice a.Ao m.out.length a.co,.int .i64 m.status,.int .i64 m.trap] 29,am gr rz 29,am go [.slice A (k+1) c,.slice Ab m.blocks.length cb,.slice Ai m.inn.length ci,.slice Ao m.out.length co,.int .i64 m.status,.int .i64 m.trap] 29,am gc [.int .i64 o.c,.int .i64 o.a] 49,am gf [fx0,fx1,.int .i64 fr,fx3] 110,am gn [.int .i64 (s.length:Int)] 3,ak (.slice A (k+1) c) (li.map Prod.fst++ [(⟨f,p0,.slice Al l.length cl,.slice As s.length cs⟩:aJ)]),ak (.slice Al l.length cl) l,cT li,ak (.slice Ab m.blocks.length cb) m.blocks,ak (.slice Ai m.inn.length ci) m.inn,ak (.slice Ao m.out.length co) m.out]:=by
 have hsl:=R.sl
 have h1:1≤s.length:=R.nd.one (.inl hc)
 have hd:=fC s
 refine dz (fun w h=>eL h (xs:=s) (.s .a)) fun hcap=>?_
 refine aa<|af (ai fc a5 rfl rfl (by rfl)) rfl rfl ?_
 refine af (ai fc aq rfl rfl (by rfl)) rfl rfl ?_
 refine af (bt rfl rfl rfl (by omega)) rfl rfl<|bG (t:=79) (v':= .int .i64 ((dl s).length:Int)) rfl (by congr 1;omega) ?_
 refine af (ff (k:=(dl s).length) aw aD (by omega) rfl rfl rfl) rfl rfl<|ag (aG _ fc cS rfl rfl rfl rfl rfl (by rfl) rfl (by rfl)) rfl rfl (fun _ _=>?_)
 refine ma (dl s) fc (kv s) ?_
 refine bB<|dN (K (dl s) As cs l m.blocks Ab cb m.inn Ai ci m.out Ao co m.status p1 ⟨R.pi.2.2,R.hms⟩ (by dsimp only[bJ];rw[if_neg (by omega),if_pos hc])) ⟨rfl,rfl,rfl,rfl,rfl,trivial⟩ me
set_option maxRecDepth 100000 in
set_option maxHeartbeats 2000000 in
theorem Ds (R:iU B w0 fs m a li k Ap cp f p0 p1 l s o fr) (hc:o.c=3) (K:∀(s':List aM) (As':Option Addr) (cs':Nat) (l':List aM) (b':List (List Int)) (Ab':Option Addr) (cb':Nat) (i':List Int) (Ai':Option Addr) (ci':Nat) (o':List Int) (Ao':Option Addr) (co':Nat) (st' nx:Int),aX nx∧aX st'→bJ fs m (li.map Prod.snd) ⟨f,p1,l,s⟩ o= .inr ⟨li.map Prod.snd++ [⟨f,nx,l',s'⟩],b',i',o',st',m.trap⟩→XW ⟨551,[]⟩ B w0 Q .normal [(4,.pointer (some ⟨gr,0,none⟩)),(5,.pointer (some ⟨go,0,none⟩)),(6,.pointer (some ⟨ab A,ao A+k*4,none⟩)),(9,.pointer (some ⟨gs,0,none⟩)),(13,.int .i64 nx)] (am gs [.slice As' s'.length cs'] 95::ak (.slice As' s'.length cs') s'::am gr rz 29::am go [.slice A (k+1) c,.slice Ab' b'.length cb',.slice Ai' i'.length ci',.slice Ao' o'.length co',.int .i64 st',.int .i64 m.trap] 29::ak (.slice A (k+1) c) (li.map Prod.fst++ [(⟨f,p0,.slice Al l'.length cl,.slice As s.length cs⟩:aJ)])::ak (.slice Al l'.length cl) l'::cT li::ak (.slice Ab' b'.length cb') b'::ak (.slice Ai' i'.length ci') i'::ak (.slice Ao' o'.length co') o':: [])):CW Tryz.prog ⟨551,[]⟩ B w0 (il [true,true,true,true,true,true,true,true,true,true,true,false,true,false,true,true,true,true,true,false] (eH Tryz.f25)) Q [(4,.pointer (some ⟨gr,0,none⟩)),(5,.pointer (some ⟨go,0,none⟩)),(6,.pointer (some ⟨ab A,ao A+k*4,none⟩)),(9,.pointer (some ⟨gs,0,none⟩)),(10,.pointer (some ⟨gn,0,none⟩)),(13,.int .i64 p1)] [am gs [.slice As s.length cs] 95,ak (.slice As s.length cs) s,am gp [.slice Ap fs.length cp] 24,am gm [.slice a.Af m.frames.length a.cf,.slice a.Ab m.blocks.length a.cb,.slice a.Ai m.inn.length a.ci,.slice a.Ao m.out.length a.co,.int .i64 m.status,.int .i64 m.trap] 29,am gr rz 29,am go [.slice A (k+1) c,.slice Ab m.blocks.length cb,.slice Ai m.inn.length ci,.slice Ao m.out.length co,.int .i64 m.status,.int .i64 m.trap] 29,am gc [.int .i64 o.c,.int .i64 o.a] 49,am gf [fx0,fx1,.int .i64 fr,fx3] 110,am gn [.int .i64 (s.length:Int)] 3,ak (.slice A (k+1) c) (li.map Prod.fst++ [(⟨f,p0,.slice Al l.length cl,.slice As s.length cs⟩:aJ)]),ak (.slice Al l.length cl) l,cT li,ak (.slice Ab m.blocks.length cb) m.blocks,ak (.slice Ai m.inn.length ci) m.inn,ak (.slice Ao m.out.length co) m.out]:=by
 have hsl:=R.sl
 have h1:1≤s.length:=R.nd.one (.inr (.inl hc))
 have hv:s.getD (s.length - 1) default=aK s:=dG.symm
 have hvi:aX (aK s).n:=by rw[dG];exact R.si _ (cL (by omega))
 refine bN (.still 0 (.still 1 (.still 2 (.still 3 (.still 4 (.still 5 (.pick 6 (.pick 7 (.pick 8 .done .stop) .stop) .stop))))))) [7,8] rfl (by kernel_rfl) (by kernel_rfl) ?_
 refine an rfl (ai fc a5 rfl rfl (by rfl)) rfl rfl ha ?_
 refine an rfl (ai fc a5 rfl rfl (by rfl)) rfl rfl ha ?_
 refine an rfl (ai fc aq rfl rfl (by rfl)) rfl rfl ha ?_
 refine an rfl (bt rfl rfl rfl (by omega)) rfl rfl ha ?_
 refine cG (t:=86) (v':= .int .i64 ((s.length - 1:Nat):Int)) rfl (by congr 1;omega) ?_
 refine an rfl (aQ (k:=(s.length - 1)) aw aD (SF.own (xs:=s) rfl fc) (by omega) rfl rfl rfl) rfl rfl ha ?_
 refine an rfl (cu (SF.val (SF.own rfl fc) (show s.length - 1<s.length by omega) default) rfl rfl db aD) rfl rfl ha ?_
 refine aC rfl (bh (cs:= [_,_]) aw aD bq rfl rfl rfl rfl rfl) rfl rfl (.inr fun _=>ha) (fun g1 _=>?_) ax
 rw[hv]
 refine aC rfl (dv (α:=aM) (bytes:=16) (aK s) [] rfl aw (bO cZ) rfl (eu fc fc) (dB hvi) (by omega) (by omega) rfl rfl rfl) rfl rfl (.inl rfl) (fun⟨A3,c3⟩ _=>?_) ax
 try dsimp only
 refine aC rfl (aG _ fc cS rfl rfl rfl rfl rfl (by rfl) rfl (by rfl)) rfl rfl (.inl rfl) (fun _ _=>?_) ax
 refine cd<|dN (K (s++ [aK s]) A3 c3 l m.blocks Ab cb m.inn Ai ci m.out Ao co m.status p1 ⟨R.pi.2.2,R.hms⟩ (by dsimp only[bJ];rw[if_neg (by omega),if_neg (by omega),if_pos hc];conv=>lhs;rw[show dl s++ [aK s,aK s]=s++ [aK s] from by exact Cd h1])) ⟨rfl,rfl,rfl,rfl,rfl,trivial⟩ me
set_option maxRecDepth 100000 in
set_option maxHeartbeats 2000000 in
theorem Dr (R:iU B w0 fs m a li k Ap cp f p0 p1 l s o fr) (hc:o.c=4) (K:∀(s':List aM) (As':Option Addr) (cs':Nat) (l':List aM) (b':List (List Int)) (Ab':Option Addr) (cb':Nat) (i':List Int) (Ai':Option Addr) (ci':Nat) (o':List Int) (Ao':Option Addr) (co':Nat) (st' nx:Int),aX nx∧aX st'→bJ fs m (li.map Prod.snd) ⟨f,p1,l,s⟩ o= .inr ⟨li.map Prod.snd++ [⟨f,nx,l',s'⟩],b',i',o',st',m.trap⟩→XW ⟨551,[]⟩ B w0 Q .normal [(4,.pointer (some ⟨gr,0,none⟩)),(5,.pointer (some ⟨go,0,none⟩)),(6,.pointer (some ⟨ab A,ao A+k*4,none⟩)),(9,.pointer (some ⟨gs,0,none⟩)),(13,.int .i64 nx)] (am gs [.slice As' s'.length cs'] 95::ak (.slice As' s'.length cs') s'::am gr rz 29::am go [.slice A (k+1) c,.slice Ab' b'.length cb',.slice Ai' i'.length ci',.slice Ao' o'.length co',.int .i64 st',.int .i64 m.trap] 29::ak (.slice A (k+1) c) (li.map Prod.fst++ [(⟨f,p0,.slice Al l'.length cl,.slice As s.length cs⟩:aJ)])::ak (.slice Al l'.length cl) l'::cT li::ak (.slice Ab' b'.length cb') b'::ak (.slice Ai' i'.length ci') i'::ak (.slice Ao' o'.length co') o':: [])):CW Tryz.prog ⟨551,[]⟩ B w0 (il [true,true,true,true,true,true,true,true,true,true,true,false,true,false,true,true,true,true,true,true,true,false] (eH Tryz.f25)) Q [(4,.pointer (some ⟨gr,0,none⟩)),(5,.pointer (some ⟨go,0,none⟩)),(6,.pointer (some ⟨ab A,ao A+k*4,none⟩)),(9,.pointer (some ⟨gs,0,none⟩)),(10,.pointer (some ⟨gn,0,none⟩)),(13,.int .i64 p1)] [am gs [.slice As s.length cs] 95,ak (.slice As s.length cs) s,am gp [.slice Ap fs.length cp] 24,am gm [.slice a.Af m.frames.length a.cf,.slice a.Ab m.blocks.length a.cb,.slice a.Ai m.inn.length a.ci,.slice a.Ao m.out.length a.co,.int .i64 m.status,.int .i64 m.trap] 29,am gr rz 29,am go [.slice A (k+1) c,.slice Ab m.blocks.length cb,.slice Ai m.inn.length ci,.slice Ao m.out.length co,.int .i64 m.status,.int .i64 m.trap] 29,am gc [.int .i64 o.c,.int .i64 o.a] 49,am gf [fx0,fx1,.int .i64 fr,fx3] 110,am gn [.int .i64 (s.length:Int)] 3,ak (.slice A (k+1) c) (li.map Prod.fst++ [(⟨f,p0,.slice Al l.length cl,.slice As s.length cs⟩:aJ)]),ak (.slice Al l.length cl) l,cT li,ak (.slice Ab m.blocks.length cb) m.blocks,ak (.slice Ai m.inn.length ci) m.inn,ak (.slice Ao m.out.length co) m.out]:=by
 have hsl:=R.sl
 have h1:2≤s.length:=R.nd.two (.inl hc)
 have hv:s.getD (s.length - 1) default=aK s:=dG.symm
 have hvi:aX (aK s).n:=by rw[dG];exact R.si _ (cL (by omega))
 have hv2:s.getD (s.length - 2) default=aK (dl s):=(gE h1).symm
 have hvi2:aX (aK (dl s)).n:=by rw[gE h1];exact R.si _ (cL (by omega))
 have e2:(dl (dl s)++ [aK s,aK (dl s)]).length=s.length:=by rw[←qr h1,List.length_set,List.length_set]
 refine dz (fun w hw=>(SF.at_ (SF.own (xs:=s) rfl (.s .a)) hw).addr (show 0<s.length by omega)) fun hAs=>?_
 refine fm (.still 0 (.still 1 (.still 2 (.still 3 (.still 4 (.still 5 (.still 6 (.still 7 (.still 8 (.still 9 (.still 11 (.still 12 (.still 13 (.still 14 (.pick 10 (.pick 15 (.still 16 (.pick 17 (.still 18 (.pick 19 .done .stop)) .stop)) .stop) (.pick 15 (.pick 10 (.still 16 (.pick 17 (.still 18 (.pick 19 .done .stop)) .stop)) .stop) .stop)))))))))))))))) [19] rfl (by kernel_rfl) (by kernel_rfl) [am gs [.slice As s.length cs] 95,am gn [.int .i64 (s.length:Int)] 3] ?_
 refine an rfl (ai fc a5 rfl rfl (by rfl)) rfl rfl ha ?_
 refine an rfl (ai fc aq rfl rfl (by rfl)) rfl rfl ha ?_
 refine an rfl (nZ (c:=((s.length - 1:Nat):Int)) (by omega) rfl rfl rfl (by omega)) rfl rfl ha ?_
 refine an rfl (ai fc a5 rfl rfl (by rfl)) rfl rfl ha ?_
 refine an rfl (ai fc aq rfl rfl (by rfl)) rfl rfl ha ?_
 refine an rfl (nZ (c:=((s.length - 2:Nat):Int)) (by omega) rfl rfl rfl (by omega)) rfl rfl ha ?_
 refine an rfl (ai fc a5 rfl rfl (by rfl)) rfl rfl ha ?_
 refine an rfl (ai fc aq rfl rfl (by rfl)) rfl rfl ha ?_
 refine an rfl (nZ (c:=((s.length - 2:Nat):Int)) (by omega) rfl rfl rfl (by omega)) rfl rfl ha ?_
 refine an rfl (kX (k:=s.length - 2) hAs aw aD (by omega) rfl rfl rfl) rfl rfl ha ?_
 refine an rfl (ai fc a5 rfl rfl (by rfl)) rfl rfl ha ?_
 refine an rfl (ai fc aq rfl rfl (by rfl)) rfl rfl ha ?_
 refine an rfl (nZ (c:=((s.length - 1:Nat):Int)) (by omega) rfl rfl rfl (by omega)) rfl rfl ha ?_
 refine an rfl (kX (k:=s.length - 1) hAs aw aD (by omega) rfl rfl rfl) rfl rfl ha ?_
 refine aC rfl (vm (cu (cs:= [.bool (aK (dl s)).ref,.int .i64 (aK (dl s)).n]) (fun w hw j v h=>(SF.val (SF.own rfl fc) (show s.length - 2<s.length by omega) default) w hw j v (by rw[hv2];exact h)) rfl rfl db aD)) rfl rfl (.inr fun _=>ha) (fun _ _=>?_) ?_
 ·refine aC rfl (vm (cu (cs:= [.bool (aK s).ref,.int .i64 (aK s).n]) (fun w hw j v h=>(SF.val (SF.own rfl fc) (show s.length - 1<s.length by omega) default) w hw j v (by rw[hv];exact h)) rfl rfl db aD)) rfl rfl (.inr fun _=>ha) (fun _ _=>?_) ax
  refine an rfl (kX (k:=s.length - 1) hAs aw aD (by omega) rfl rfl rfl) rfl rfl ha ?_
  refine aC rfl (eE (α:=aM) (A:=As) (c:=cs) (aK (dl s)) default (xs':=s.set (s.length - 1) (aK (dl s))) rfl fc (by omega) hvi2 aD rfl rfl rfl rfl rfl rfl rfl rfl) rfl rfl (.inr fun _=>ha) (fun _ _=>?_) ax
  refine an rfl (kX (k:=s.length - 2) hAs aw aD (by omega) rfl rfl rfl) rfl rfl ha ?_
  refine aC rfl (eE (α:=aM) (A:=As) (c:=cs) (aK s) default (xs':=dl (dl s)++ [aK s,aK (dl s)]) (qr h1).symm fc (by omega) hvi aD rfl rfl rfl rfl rfl rfl rfl rfl) rfl rfl (.inl rfl) (fun _ _=>?_) ax
  refine cd<|dN (K (dl (dl s)++ [aK s,aK (dl s)]) As cs l m.blocks Ab cb m.inn Ai ci m.out Ao co m.status p1 ⟨R.pi.2.2,R.hms⟩ (by dsimp only[bJ];rw[if_neg (by omega)];rw[if_neg (by omega)];rw[if_neg (by omega)];rw[if_pos hc])) ⟨rfl,rfl,rfl,rfl,rfl,trivial⟩ (fun w h=>by rw[e2];exact h.msub ms)
 refine aC rfl (vm (cu (cs:= [.bool (aK s).ref,.int .i64 (aK s).n]) (fun w hw j v h=>(SF.val (SF.own rfl fc) (show s.length - 1<s.length by omega) default) w hw j v (by rw[hv];exact h)) rfl rfl db aD)) rfl rfl (.inr fun _=>ha) (fun _ _=>?_) ax
 refine aC rfl (vm (cu (cs:= [.bool (aK (dl s)).ref,.int .i64 (aK (dl s)).n]) (fun w hw j v h=>(SF.val (SF.own rfl fc) (show s.length - 2<s.length by omega) default) w hw j v (by rw[hv2];exact h)) rfl rfl db aD)) rfl rfl (.inr fun _=>ha) (fun _ _=>?_) ax
 refine an rfl (kX (k:=s.length - 1) hAs aw aD (by omega) rfl rfl rfl) rfl rfl ha ?_
 refine aC rfl (eE (α:=aM) (A:=As) (c:=cs) (aK (dl s)) default (xs':=s.set (s.length - 1) (aK (dl s))) rfl fc (by omega) hvi2 aD rfl rfl rfl rfl rfl rfl rfl rfl) rfl rfl (.inr fun _=>ha) (fun _ _=>?_) ax
 refine an rfl (kX (k:=s.length - 2) hAs aw aD (by omega) rfl rfl rfl) rfl rfl ha ?_
 refine aC rfl (eE (α:=aM) (A:=As) (c:=cs) (aK s) default (xs':=dl (dl s)++ [aK s,aK (dl s)]) (qr h1).symm fc (by omega) hvi aD rfl rfl rfl rfl rfl rfl rfl rfl) rfl rfl (.inl rfl) (fun _ _=>?_) ax
 refine cd<|dN (K (dl (dl s)++ [aK s,aK (dl s)]) As cs l m.blocks Ab cb m.inn Ai ci m.out Ao co m.status p1 ⟨R.pi.2.2,R.hms⟩ (by dsimp only[bJ];rw[if_neg (by omega)];rw[if_neg (by omega)];rw[if_neg (by omega)];rw[if_pos hc])) ⟨rfl,rfl,rfl,rfl,rfl,trivial⟩ (fun w h=>by rw[e2];exact h.msub ms)
set_option maxRecDepth 100000 in
set_option maxHeartbeats 2000000 in
theorem Dq (R:iU B w0 fs m a li k Ap cp f p0 p1 l s o fr) (hc:o.c=5) (K:∀(s':List aM) (As':Option Addr) (cs':Nat) (l':List aM) (b':List (List Int)) (Ab':Option Addr) (cb':Nat) (i':List Int) (Ai':Option Addr) (ci':Nat) (o':List Int) (Ao':Option Addr) (co':Nat) (st' nx:Int),aX nx∧aX st'→bJ fs m (li.map Prod.snd) ⟨f,p1,l,s⟩ o= .inr ⟨li.map Prod.snd++ [⟨f,nx,l',s'⟩],b',i',o',st',m.trap⟩→XW ⟨551,[]⟩ B w0 Q .normal [(4,.pointer (some ⟨gr,0,none⟩)),(5,.pointer (some ⟨go,0,none⟩)),(6,.pointer (some ⟨ab A,ao A+k*4,none⟩)),(9,.pointer (some ⟨gs,0,none⟩)),(13,.int .i64 nx)] (am gs [.slice As' s'.length cs'] 95::ak (.slice As' s'.length cs') s'::am gr rz 29::am go [.slice A (k+1) c,.slice Ab' b'.length cb',.slice Ai' i'.length ci',.slice Ao' o'.length co',.int .i64 st',.int .i64 m.trap] 29::ak (.slice A (k+1) c) (li.map Prod.fst++ [(⟨f,p0,.slice Al l'.length cl,.slice As s.length cs⟩:aJ)])::ak (.slice Al l'.length cl) l'::cT li::ak (.slice Ab' b'.length cb') b'::ak (.slice Ai' i'.length ci') i'::ak (.slice Ao' o'.length co') o':: [])):CW Tryz.prog ⟨551,[]⟩ B w0 (il [true,true,true,true,true,true,true,true,true,true,true,false,true,false,true,true,true,true,true,true,true,true,true,false] (eH Tryz.f25)) Q [(4,.pointer (some ⟨gr,0,none⟩)),(5,.pointer (some ⟨go,0,none⟩)),(6,.pointer (some ⟨ab A,ao A+k*4,none⟩)),(9,.pointer (some ⟨gs,0,none⟩)),(10,.pointer (some ⟨gn,0,none⟩)),(11,.func (.func 77) #[] #[]),(13,.int .i64 p1)] [am gs [.slice As s.length cs] 95,ak (.slice As s.length cs) s,am gp [.slice Ap fs.length cp] 24,am gm [.slice a.Af m.frames.length a.cf,.slice a.Ab m.blocks.length a.cb,.slice a.Ai m.inn.length a.ci,.slice a.Ao m.out.length a.co,.int .i64 m.status,.int .i64 m.trap] 29,am gr rz 29,am go [.slice A (k+1) c,.slice Ab m.blocks.length cb,.slice Ai m.inn.length ci,.slice Ao m.out.length co,.int .i64 m.status,.int .i64 m.trap] 29,am gc [.int .i64 o.c,.int .i64 o.a] 49,am gf [fx0,fx1,.int .i64 fr,fx3] 110,am gn [.int .i64 (s.length:Int)] 3,ak (.slice A (k+1) c) (li.map Prod.fst++ [(⟨f,p0,.slice Al l.length cl,.slice As s.length cs⟩:aJ)]),ak (.slice Al l.length cl) l,cT li,ak (.slice Ab m.blocks.length cb) m.blocks,ak (.slice Ai m.inn.length ci) m.inn,ak (.slice Ao m.out.length co) m.out]:=by
 have hsl:=R.sl
 have h1:2≤s.length:=R.nd.two (by omega)
 have hv:s.getD (s.length - 1) default=aK s:=dG.symm
 have hvi:aX (aK s).n:=by rw[dG];exact R.si _ (cL (by omega))
 have hv2:s.getD (s.length - 2) default=aK (dl s):=(gE h1).symm
 have hvi2:aX (aK (dl s)).n:=by rw[gE h1];exact R.si _ (cL (by omega))
 refine dz (fun w h=>eL h (xs:=s) (.s .a)) fun hcap=>?_
 have hd:=og s
 refine bN (.still 0 (.still 1 (.still 2 (.still 3 (.still 4 (.still 5 (.still 6 (.still 7 (.still 8 (.still 9 (.still 10 (.still 11 (.still 12 (.still 13 (.still 14 (.still 15 (.still 16 (.still 17 (.pick 18 (.pick 19 (.pick 20 (.pick 21 .done .stop) .stop) .stop) .stop))))))))))))))))))) [20,21] rfl (by kernel_rfl) (by kernel_rfl) ?_
 refine an rfl (ai fc a5 rfl rfl (by rfl)) rfl rfl ha ?_
 refine an rfl (ai fc aq rfl rfl (by rfl)) rfl rfl ha ?_
 refine an rfl (bt rfl rfl rfl (by omega)) rfl rfl ha ?_
 refine cG (t:=115) (v':= .int .i64 ((dl (dl s)).length:Int)) rfl (by congr 1;omega) ?_
 refine an rfl (ff (k:=(dl (dl s)).length) aw aD (by omega) rfl rfl rfl) rfl rfl ha ?_
 refine aW ha 1 [4,5,6,9,10,13,116,117] rfl<|an rfl (ai fc a5 rfl rfl (by rfl)) rfl rfl ha ?_
 refine an rfl (ai fc aq rfl rfl (by rfl)) rfl rfl ha ?_
 refine an rfl (bt rfl rfl rfl (by omega)) rfl rfl ha ?_
 refine cG (t:=120) (v':= .int .i64 ((s.length - 2:Nat):Int)) rfl (by congr 1;omega) ?_
 refine an rfl (aQ (k:=(s.length - 2)) aw aD (SF.own (xs:=s) rfl fc) (by omega) rfl rfl rfl) rfl rfl ha ?_
 refine aW ha 1 [4,5,6,9,10,13,116,117,122] rfl<|an rfl (a9 (fun w hw=>(SF.val (SF.own rfl fc) (show s.length - 2<s.length by omega) default) w hw 1 _ rfl) rfl rfl aq) rfl rfl ha ?_
 refine an rfl (ai fc a5 rfl rfl (by rfl)) rfl rfl ha ?_
 refine an rfl (ai fc aq rfl rfl (by rfl)) rfl rfl ha ?_
 refine an rfl (bt rfl rfl rfl (by omega)) rfl rfl ha ?_
 rw[hv2]
 refine cG (t:=126) (v':= .int .i64 ((s.length - 1:Nat):Int)) rfl (by congr 1;omega) ?_
 refine an rfl (aQ (k:=(s.length - 1)) aw aD (SF.own (xs:=s) rfl fc) (by omega) rfl rfl rfl) rfl rfl ha ?_
 refine aW ha 1 [4,5,6,9,13,116,117,123,128] rfl<|an rfl (a9 (fun w hw=>(SF.val (SF.own rfl fc) (show s.length - 1<s.length by omega) default) w hw 1 _ rfl) rfl rfl aq) rfl rfl ha ?_
 rw[hv]
 refine an rfl (uw rfl rfl rfl) rfl rfl ha ?_
 refine aC rfl (gN rfl rfl rfl kH (fun w hw=>gU (nN (aK (dl s)).n (aK s).n) (oN _) w)) rfl rfl (.inr fun _=>ha) (fun _ _=>?_) ax
 refine aC rfl (bh (cs:= [_,_]) aw aD bq rfl rfl rfl rfl rfl) rfl rfl (.inr fun _=>ha) (fun g1 _=>?_) ax
 refine py (dl (dl s)) fc (mv s) ?_
 refine aC rfl (dv (α:=aM) (bytes:=16) (cy (nN (aK (dl s)).n (aK s).n)) [] rfl aw (bO cZ) rfl (eu fc fc) (dB (hJ _)) (by omega) (by omega) rfl rfl rfl) rfl rfl (.inl rfl) (fun⟨A3,c3⟩ _=>?_) ax
 try dsimp only
 refine aC rfl (aG _ fc cS rfl rfl rfl rfl rfl (by rfl) rfl (by rfl)) rfl rfl (.inl rfl) (fun _ _=>?_) ax
 refine cd<|dN (K (dl (dl s)++ [cy (nN (aK (dl s)).n (aK s).n)]) A3 c3 l m.blocks Ab cb m.inn Ai ci m.out Ao co m.status p1 ⟨R.pi.2.2,R.hms⟩ (by dsimp only[bJ];rw[if_neg (by omega)];rw[if_neg (by omega)];rw[if_neg (by omega)];rw[if_neg (by omega)];rw[if_pos hc])) ⟨rfl,rfl,rfl,rfl,rfl,trivial⟩ me
set_option maxRecDepth 100000 in
set_option maxHeartbeats 2000000 in
theorem Dp (R:iU B w0 fs m a li k Ap cp f p0 p1 l s o fr) (hc:o.c=6) (K:∀(s':List aM) (As':Option Addr) (cs':Nat) (l':List aM) (b':List (List Int)) (Ab':Option Addr) (cb':Nat) (i':List Int) (Ai':Option Addr) (ci':Nat) (o':List Int) (Ao':Option Addr) (co':Nat) (st' nx:Int),aX nx∧aX st'→bJ fs m (li.map Prod.snd) ⟨f,p1,l,s⟩ o= .inr ⟨li.map Prod.snd++ [⟨f,nx,l',s'⟩],b',i',o',st',m.trap⟩→XW ⟨551,[]⟩ B w0 Q .normal [(4,.pointer (some ⟨gr,0,none⟩)),(5,.pointer (some ⟨go,0,none⟩)),(6,.pointer (some ⟨ab A,ao A+k*4,none⟩)),(9,.pointer (some ⟨gs,0,none⟩)),(13,.int .i64 nx)] (am gs [.slice As' s'.length cs'] 95::ak (.slice As' s'.length cs') s'::am gr rz 29::am go [.slice A (k+1) c,.slice Ab' b'.length cb',.slice Ai' i'.length ci',.slice Ao' o'.length co',.int .i64 st',.int .i64 m.trap] 29::ak (.slice A (k+1) c) (li.map Prod.fst++ [(⟨f,p0,.slice Al l'.length cl,.slice As s.length cs⟩:aJ)])::ak (.slice Al l'.length cl) l'::cT li::ak (.slice Ab' b'.length cb') b'::ak (.slice Ai' i'.length ci') i'::ak (.slice Ao' o'.length co') o':: [])):CW Tryz.prog ⟨551,[]⟩ B w0 (il [true,true,true,true,true,true,true,true,true,true,true,false,true,false,true,true,true,true,true,true,true,true,true,true,true,false] (eH Tryz.f25)) Q [(4,.pointer (some ⟨gr,0,none⟩)),(5,.pointer (some ⟨go,0,none⟩)),(6,.pointer (some ⟨ab A,ao A+k*4,none⟩)),(9,.pointer (some ⟨gs,0,none⟩)),(10,.pointer (some ⟨gn,0,none⟩)),(11,.func (.func 77) #[] #[]),(13,.int .i64 p1)] [am gs [.slice As s.length cs] 95,ak (.slice As s.length cs) s,am gp [.slice Ap fs.length cp] 24,am gm [.slice a.Af m.frames.length a.cf,.slice a.Ab m.blocks.length a.cb,.slice a.Ai m.inn.length a.ci,.slice a.Ao m.out.length a.co,.int .i64 m.status,.int .i64 m.trap] 29,am gr rz 29,am go [.slice A (k+1) c,.slice Ab m.blocks.length cb,.slice Ai m.inn.length ci,.slice Ao m.out.length co,.int .i64 m.status,.int .i64 m.trap] 29,am gc [.int .i64 o.c,.int .i64 o.a] 49,am gf [fx0,fx1,.int .i64 fr,fx3] 110,am gn [.int .i64 (s.length:Int)] 3,ak (.slice A (k+1) c) (li.map Prod.fst++ [(⟨f,p0,.slice Al l.length cl,.slice As s.length cs⟩:aJ)]),ak (.slice Al l.length cl) l,cT li,ak (.slice Ab m.blocks.length cb) m.blocks,ak (.slice Ai m.inn.length ci) m.inn,ak (.slice Ao m.out.length co) m.out]:=by
 have hsl:=R.sl
 have h1:2≤s.length:=R.nd.two (by omega)
 have hv:s.getD (s.length - 1) default=aK s:=dG.symm
 have hvi:aX (aK s).n:=by rw[dG];exact R.si _ (cL (by omega))
 have hv2:s.getD (s.length - 2) default=aK (dl s):=(gE h1).symm
 have hvi2:aX (aK (dl s)).n:=by rw[gE h1];exact R.si _ (cL (by omega))
 refine dz (fun w h=>eL h (xs:=s) (.s .a)) fun hcap=>?_
 have hd:=og s
 refine bN (.still 0 (.still 1 (.still 2 (.still 3 (.still 4 (.still 5 (.still 6 (.still 7 (.still 8 (.still 9 (.still 10 (.still 11 (.still 12 (.still 13 (.still 14 (.still 15 (.still 16 (.still 17 (.pick 18 (.pick 19 (.pick 20 (.pick 21 .done .stop) .stop) .stop) .stop))))))))))))))))))) [20,21] rfl (by kernel_rfl) (by kernel_rfl) ?_
 refine an rfl (ai fc a5 rfl rfl (by rfl)) rfl rfl ha ?_
 refine an rfl (ai fc aq rfl rfl (by rfl)) rfl rfl ha ?_
 refine an rfl (bt rfl rfl rfl (by omega)) rfl rfl ha ?_
 refine cG (t:=138) (v':= .int .i64 ((dl (dl s)).length:Int)) rfl (by congr 1;omega) ?_
 refine an rfl (ff (k:=(dl (dl s)).length) aw aD (by omega) rfl rfl rfl) rfl rfl ha ?_
 refine aW ha 1 [4,5,6,9,10,13,139,140] rfl<|an rfl (ai fc a5 rfl rfl (by rfl)) rfl rfl ha ?_
 refine an rfl (ai fc aq rfl rfl (by rfl)) rfl rfl ha ?_
 refine an rfl (bt rfl rfl rfl (by omega)) rfl rfl ha ?_
 refine cG (t:=143) (v':= .int .i64 ((s.length - 2:Nat):Int)) rfl (by congr 1;omega) ?_
 refine an rfl (aQ (k:=(s.length - 2)) aw aD (SF.own (xs:=s) rfl fc) (by omega) rfl rfl rfl) rfl rfl ha ?_
 refine aW ha 1 [4,5,6,9,10,13,139,140,145] rfl<|an rfl (a9 (fun w hw=>(SF.val (SF.own rfl fc) (show s.length - 2<s.length by omega) default) w hw 1 _ rfl) rfl rfl aq) rfl rfl ha ?_
 refine an rfl (ai fc a5 rfl rfl (by rfl)) rfl rfl ha ?_
 refine an rfl (ai fc aq rfl rfl (by rfl)) rfl rfl ha ?_
 refine an rfl (bt rfl rfl rfl (by omega)) rfl rfl ha ?_
 rw[hv2]
 refine cG (t:=149) (v':= .int .i64 ((s.length - 1:Nat):Int)) rfl (by congr 1;omega) ?_
 refine an rfl (aQ (k:=(s.length - 1)) aw aD (SF.own (xs:=s) rfl fc) (by omega) rfl rfl rfl) rfl rfl ha ?_
 refine aW ha 1 [4,5,6,9,13,139,140,146,151] rfl<|an rfl (a9 (fun w hw=>(SF.val (SF.own rfl fc) (show s.length - 1<s.length by omega) default) w hw 1 _ rfl) rfl rfl aq) rfl rfl ha ?_
 rw[hv]
 refine an rfl (uu rfl rfl rfl) rfl rfl ha ?_
 refine aC rfl (gN rfl rfl rfl kH (fun w hw=>gU (nj (aK (dl s)).n (aK s).n) (oN _) w)) rfl rfl (.inr fun _=>ha) (fun _ _=>?_) ax
 refine aC rfl (bh (cs:= [_,_]) aw aD bq rfl rfl rfl rfl rfl) rfl rfl (.inr fun _=>ha) (fun g1 _=>?_) ax
 refine py (dl (dl s)) fc (mv s) ?_
 refine aC rfl (dv (α:=aM) (bytes:=16) (cy (nj (aK (dl s)).n (aK s).n)) [] rfl aw (bO cZ) rfl (eu fc fc) (dB (hJ _)) (by omega) (by omega) rfl rfl rfl) rfl rfl (.inl rfl) (fun⟨A3,c3⟩ _=>?_) ax
 try dsimp only
 refine aC rfl (aG _ fc cS rfl rfl rfl rfl rfl (by rfl) rfl (by rfl)) rfl rfl (.inl rfl) (fun _ _=>?_) ax
 refine cd<|dN (K (dl (dl s)++ [cy (nj (aK (dl s)).n (aK s).n)]) A3 c3 l m.blocks Ab cb m.inn Ai ci m.out Ao co m.status p1 ⟨R.pi.2.2,R.hms⟩ (by dsimp only[bJ];rw[if_neg (by omega)];rw[if_neg (by omega)];rw[if_neg (by omega)];rw[if_neg (by omega)];rw[if_neg (by omega)];rw[if_pos hc])) ⟨rfl,rfl,rfl,rfl,rfl,trivial⟩ me
set_option maxRecDepth 100000 in
set_option maxHeartbeats 2000000 in
theorem Do (R:iU B w0 fs m a li k Ap cp f p0 p1 l s o fr) (hc:o.c=7) (K:∀(s':List aM) (As':Option Addr) (cs':Nat) (l':List aM) (b':List (List Int)) (Ab':Option Addr) (cb':Nat) (i':List Int) (Ai':Option Addr) (ci':Nat) (o':List Int) (Ao':Option Addr) (co':Nat) (st' nx:Int),aX nx∧aX st'→bJ fs m (li.map Prod.snd) ⟨f,p1,l,s⟩ o= .inr ⟨li.map Prod.snd++ [⟨f,nx,l',s'⟩],b',i',o',st',m.trap⟩→XW ⟨551,[]⟩ B w0 Q .normal [(4,.pointer (some ⟨gr,0,none⟩)),(5,.pointer (some ⟨go,0,none⟩)),(6,.pointer (some ⟨ab A,ao A+k*4,none⟩)),(9,.pointer (some ⟨gs,0,none⟩)),(13,.int .i64 nx)] (am gs [.slice As' s'.length cs'] 95::ak (.slice As' s'.length cs') s'::am gr rz 29::am go [.slice A (k+1) c,.slice Ab' b'.length cb',.slice Ai' i'.length ci',.slice Ao' o'.length co',.int .i64 st',.int .i64 m.trap] 29::ak (.slice A (k+1) c) (li.map Prod.fst++ [(⟨f,p0,.slice Al l'.length cl,.slice As s.length cs⟩:aJ)])::ak (.slice Al l'.length cl) l'::cT li::ak (.slice Ab' b'.length cb') b'::ak (.slice Ai' i'.length ci') i'::ak (.slice Ao' o'.length co') o':: [])):CW Tryz.prog ⟨551,[]⟩ B w0 (il [true,true,true,true,true,true,true,true,true,true,true,false,true,false,true,true,true,true,true,true,true,true,true,true,true,true,true,false] (eH Tryz.f25)) Q [(4,.pointer (some ⟨gr,0,none⟩)),(5,.pointer (some ⟨go,0,none⟩)),(6,.pointer (some ⟨ab A,ao A+k*4,none⟩)),(9,.pointer (some ⟨gs,0,none⟩)),(10,.pointer (some ⟨gn,0,none⟩)),(11,.func (.func 77) #[] #[]),(13,.int .i64 p1)] [am gs [.slice As s.length cs] 95,ak (.slice As s.length cs) s,am gp [.slice Ap fs.length cp] 24,am gm [.slice a.Af m.frames.length a.cf,.slice a.Ab m.blocks.length a.cb,.slice a.Ai m.inn.length a.ci,.slice a.Ao m.out.length a.co,.int .i64 m.status,.int .i64 m.trap] 29,am gr rz 29,am go [.slice A (k+1) c,.slice Ab m.blocks.length cb,.slice Ai m.inn.length ci,.slice Ao m.out.length co,.int .i64 m.status,.int .i64 m.trap] 29,am gc [.int .i64 o.c,.int .i64 o.a] 49,am gf [fx0,fx1,.int .i64 fr,fx3] 110,am gn [.int .i64 (s.length:Int)] 3,ak (.slice A (k+1) c) (li.map Prod.fst++ [(⟨f,p0,.slice Al l.length cl,.slice As s.length cs⟩:aJ)]),ak (.slice Al l.length cl) l,cT li,ak (.slice Ab m.blocks.length cb) m.blocks,ak (.slice Ai m.inn.length ci) m.inn,ak (.slice Ao m.out.length co) m.out]:=by
 have hsl:=R.sl
 have h1:2≤s.length:=R.nd.two (by omega)
 have hv:s.getD (s.length - 1) default=aK s:=dG.symm
 have hvi:aX (aK s).n:=by rw[dG];exact R.si _ (cL (by omega))
 have hv2:s.getD (s.length - 2) default=aK (dl s):=(gE h1).symm
 have hvi2:aX (aK (dl s)).n:=by rw[gE h1];exact R.si _ (cL (by omega))
 refine dz (fun w h=>eL h (xs:=s) (.s .a)) fun hcap=>?_
 have hd:=og s
 refine bN (.still 0 (.still 1 (.still 2 (.still 3 (.still 4 (.still 5 (.still 6 (.still 7 (.still 8 (.still 9 (.still 10 (.still 11 (.still 12 (.still 13 (.still 14 (.still 15 (.still 16 (.still 17 (.pick 18 (.pick 19 (.pick 20 (.pick 21 .done .stop) .stop) .stop) .stop))))))))))))))))))) [20,21] rfl (by kernel_rfl) (by kernel_rfl) ?_
 refine an rfl (ai fc a5 rfl rfl (by rfl)) rfl rfl ha ?_
 refine an rfl (ai fc aq rfl rfl (by rfl)) rfl rfl ha ?_
 refine an rfl (bt rfl rfl rfl (by omega)) rfl rfl ha ?_
 refine cG (t:=161) (v':= .int .i64 ((dl (dl s)).length:Int)) rfl (by congr 1;omega) ?_
 refine an rfl (ff (k:=(dl (dl s)).length) aw aD (by omega) rfl rfl rfl) rfl rfl ha ?_
 refine aW ha 1 [4,5,6,9,10,13,162,163] rfl<|an rfl (ai fc a5 rfl rfl (by rfl)) rfl rfl ha ?_
 refine an rfl (ai fc aq rfl rfl (by rfl)) rfl rfl ha ?_
 refine an rfl (bt rfl rfl rfl (by omega)) rfl rfl ha ?_
 refine cG (t:=166) (v':= .int .i64 ((s.length - 2:Nat):Int)) rfl (by congr 1;omega) ?_
 refine an rfl (aQ (k:=(s.length - 2)) aw aD (SF.own (xs:=s) rfl fc) (by omega) rfl rfl rfl) rfl rfl ha ?_
 refine aW ha 1 [4,5,6,9,10,13,162,163,168] rfl<|an rfl (a9 (fun w hw=>(SF.val (SF.own rfl fc) (show s.length - 2<s.length by omega) default) w hw 1 _ rfl) rfl rfl aq) rfl rfl ha ?_
 refine an rfl (ai fc a5 rfl rfl (by rfl)) rfl rfl ha ?_
 refine an rfl (ai fc aq rfl rfl (by rfl)) rfl rfl ha ?_
 refine an rfl (bt rfl rfl rfl (by omega)) rfl rfl ha ?_
 rw[hv2]
 refine cG (t:=172) (v':= .int .i64 ((s.length - 1:Nat):Int)) rfl (by congr 1;omega) ?_
 refine an rfl (aQ (k:=(s.length - 1)) aw aD (SF.own (xs:=s) rfl fc) (by omega) rfl rfl rfl) rfl rfl ha ?_
 refine aW ha 1 [4,5,6,9,13,162,163,169,174] rfl<|an rfl (a9 (fun w hw=>(SF.val (SF.own rfl fc) (show s.length - 1<s.length by omega) default) w hw 1 _ rfl) rfl rfl aq) rfl rfl ha ?_
 rw[hv]
 refine an rfl (uv rfl rfl rfl) rfl rfl ha ?_
 refine aC rfl (gN rfl rfl rfl kH (fun w hw=>gU (nA (aK (dl s)).n (aK s).n) (oN _) w)) rfl rfl (.inr fun _=>ha) (fun _ _=>?_) ax
 refine aC rfl (bh (cs:= [_,_]) aw aD bq rfl rfl rfl rfl rfl) rfl rfl (.inr fun _=>ha) (fun g1 _=>?_) ax
 refine py (dl (dl s)) fc (mv s) ?_
 refine aC rfl (dv (α:=aM) (bytes:=16) (cy (nA (aK (dl s)).n (aK s).n)) [] rfl aw (bO cZ) rfl (eu fc fc) (dB (hJ _)) (by omega) (by omega) rfl rfl rfl) rfl rfl (.inl rfl) (fun⟨A3,c3⟩ _=>?_) ax
 try dsimp only
 refine aC rfl (aG _ fc cS rfl rfl rfl rfl rfl (by rfl) rfl (by rfl)) rfl rfl (.inl rfl) (fun _ _=>?_) ax
 refine cd<|dN (K (dl (dl s)++ [cy (nA (aK (dl s)).n (aK s).n)]) A3 c3 l m.blocks Ab cb m.inn Ai ci m.out Ao co m.status p1 ⟨R.pi.2.2,R.hms⟩ (by dsimp only[bJ];rw[if_neg (by omega)];rw[if_neg (by omega)];rw[if_neg (by omega)];rw[if_neg (by omega)];rw[if_neg (by omega)];rw[if_neg (by omega)];rw[if_pos hc])) ⟨rfl,rfl,rfl,rfl,rfl,trivial⟩ me
set_option maxRecDepth 100000 in
set_option maxHeartbeats 2000000 in
theorem Dm (R:iU B w0 fs m a li k Ap cp f p0 p1 l s o fr) (hc:o.c=8) (K:∀(s':List aM) (As':Option Addr) (cs':Nat) (l':List aM) (b':List (List Int)) (Ab':Option Addr) (cb':Nat) (i':List Int) (Ai':Option Addr) (ci':Nat) (o':List Int) (Ao':Option Addr) (co':Nat) (st' nx:Int),aX nx∧aX st'→bJ fs m (li.map Prod.snd) ⟨f,p1,l,s⟩ o= .inr ⟨li.map Prod.snd++ [⟨f,nx,l',s'⟩],b',i',o',st',m.trap⟩→XW ⟨551,[]⟩ B w0 Q .normal [(4,.pointer (some ⟨gr,0,none⟩)),(5,.pointer (some ⟨go,0,none⟩)),(6,.pointer (some ⟨ab A,ao A+k*4,none⟩)),(9,.pointer (some ⟨gs,0,none⟩)),(13,.int .i64 nx)] (am gs [.slice As' s'.length cs'] 95::ak (.slice As' s'.length cs') s'::am gr rz 29::am go [.slice A (k+1) c,.slice Ab' b'.length cb',.slice Ai' i'.length ci',.slice Ao' o'.length co',.int .i64 st',.int .i64 m.trap] 29::ak (.slice A (k+1) c) (li.map Prod.fst++ [(⟨f,p0,.slice Al l'.length cl,.slice As s.length cs⟩:aJ)])::ak (.slice Al l'.length cl) l'::cT li::ak (.slice Ab' b'.length cb') b'::ak (.slice Ai' i'.length ci') i'::ak (.slice Ao' o'.length co') o':: [])):CW Tryz.prog ⟨551,[]⟩ B w0 (il [true,true,true,true,true,true,true,true,true,true,true,false,true,false,true,true,true,true,true,true,true,true,true,true,true,true,true,true,true,false] (eH Tryz.f25)) Q [(4,.pointer (some ⟨gr,0,none⟩)),(5,.pointer (some ⟨go,0,none⟩)),(6,.pointer (some ⟨ab A,ao A+k*4,none⟩)),(7,.pointer (some ⟨gc,0,none⟩)),(9,.pointer (some ⟨gs,0,none⟩)),(13,.int .i64 p1)] [am gs [.slice As s.length cs] 95,ak (.slice As s.length cs) s,am gp [.slice Ap fs.length cp] 24,am gm [.slice a.Af m.frames.length a.cf,.slice a.Ab m.blocks.length a.cb,.slice a.Ai m.inn.length a.ci,.slice a.Ao m.out.length a.co,.int .i64 m.status,.int .i64 m.trap] 29,am gr rz 29,am go [.slice A (k+1) c,.slice Ab m.blocks.length cb,.slice Ai m.inn.length ci,.slice Ao m.out.length co,.int .i64 m.status,.int .i64 m.trap] 29,am gc [.int .i64 o.c,.int .i64 o.a] 49,am gf [fx0,fx1,.int .i64 fr,fx3] 110,am gn [.int .i64 (s.length:Int)] 3,ak (.slice A (k+1) c) (li.map Prod.fst++ [(⟨f,p0,.slice Al l.length cl,.slice As s.length cs⟩:aJ)]),ak (.slice Al l.length cl) l,cT li,ak (.slice Ab m.blocks.length cb) m.blocks,ak (.slice Ai m.inn.length ci) m.inn,ak (.slice Ao m.out.length co) m.out]:=by
 have hsl:=R.sl
 have hloc:0≤o.a∧o.a<l.length:=R.nd.loc (.inl hc)
 have hvi:aX (l.getD o.a.toNat default).n:=R.lv _ (cL (by omega))
 have hlm:(li.map Prod.fst).length=k:=by rw[List.length_map];exact R.hk
 refine bN (.still 0 (.still 1 (.still 2 (.still 3 (.still 4 (.still 5 (.still 6 (.still 7 (.still 8 (.pick 9 (.pick 10 (.pick 11 .done .stop) .stop) .stop)))))))))) [10,11] rfl (by kernel_rfl) (by kernel_rfl) ?_
 refine an rfl (ai fc a5 rfl rfl (by rfl)) rfl rfl ha ?_
 refine aW ha 3 [4,5,6,7,9,13,182,185] rfl<|an rfl (a9 (d8 (j:=2) hlm fc rfl) rfl rfl a5) rfl rfl ha ?_
 refine aW ha 1 [4,5,6,9,13,182,186,187] rfl<|an rfl (ai fc aq rfl rfl (by rfl)) rfl rfl ha ?_
 refine cG (t:=188) (v':= .int .i64 ((o.a.toNat:Nat):Int)) rfl (by congr 1;omega) ?_
 refine an rfl (aQ (k:=o.a.toNat) aw aD (SF.own (xs:=l) rfl fc) (by omega) rfl rfl rfl) rfl rfl ha ?_
 refine an rfl (cu (SF.val (SF.own rfl fc) (show o.a.toNat<l.length by omega) default) rfl rfl db aD) rfl rfl ha ?_
 refine aC rfl (bh (cs:= [_,_]) aw aD bq rfl rfl rfl rfl rfl) rfl rfl (.inr fun _=>ha) (fun g1 _=>?_) ax
 refine aC rfl (dv (α:=aM) (bytes:=16) (l.getD o.a.toNat default) [] rfl aw (bO cZ) rfl (eu (R:=ak (.slice As s.length cs) s) fc fc) (dB hvi) (by omega) (by omega) rfl rfl rfl) rfl rfl (.inl rfl) (fun⟨A3,c3⟩ _=>?_) ax
 try dsimp only
 refine aC rfl (aG _ fc cS rfl rfl rfl rfl rfl (by rfl) rfl (by rfl)) rfl rfl (.inl rfl) (fun _ _=>?_) ax
 refine cd<|dN (K (s++ [l.getD o.a.toNat default]) A3 c3 l m.blocks Ab cb m.inn Ai ci m.out Ao co m.status p1 ⟨R.pi.2.2,R.hms⟩ (by dsimp only[bJ];rw[if_neg (by omega)];rw[if_neg (by omega)];rw[if_neg (by omega)];rw[if_neg (by omega)];rw[if_neg (by omega)];rw[if_neg (by omega)];rw[if_neg (by omega)];rw[if_pos hc])) ⟨rfl,rfl,rfl,rfl,rfl,trivial⟩ me
set_option maxRecDepth 100000 in
set_option maxHeartbeats 2000000 in
theorem Dl (R:iU B w0 fs m a li k Ap cp f p0 p1 l s o fr) (hc:o.c=9) (K:∀(s':List aM) (As':Option Addr) (cs':Nat) (l':List aM) (b':List (List Int)) (Ab':Option Addr) (cb':Nat) (i':List Int) (Ai':Option Addr) (ci':Nat) (o':List Int) (Ao':Option Addr) (co':Nat) (st' nx:Int),aX nx∧aX st'→bJ fs m (li.map Prod.snd) ⟨f,p1,l,s⟩ o= .inr ⟨li.map Prod.snd++ [⟨f,nx,l',s'⟩],b',i',o',st',m.trap⟩→XW ⟨551,[]⟩ B w0 Q .normal [(4,.pointer (some ⟨gr,0,none⟩)),(5,.pointer (some ⟨go,0,none⟩)),(6,.pointer (some ⟨ab A,ao A+k*4,none⟩)),(9,.pointer (some ⟨gs,0,none⟩)),(13,.int .i64 nx)] (am gs [.slice As' s'.length cs'] 95::ak (.slice As' s'.length cs') s'::am gr rz 29::am go [.slice A (k+1) c,.slice Ab' b'.length cb',.slice Ai' i'.length ci',.slice Ao' o'.length co',.int .i64 st',.int .i64 m.trap] 29::ak (.slice A (k+1) c) (li.map Prod.fst++ [(⟨f,p0,.slice Al l'.length cl,.slice As s.length cs⟩:aJ)])::ak (.slice Al l'.length cl) l'::cT li::ak (.slice Ab' b'.length cb') b'::ak (.slice Ai' i'.length ci') i'::ak (.slice Ao' o'.length co') o':: [])):CW Tryz.prog ⟨551,[]⟩ B w0 (il [true,true,true,true,true,true,true,true,true,true,true,false,true,false,true,true,true,true,true,true,true,true,true,true,true,true,true,true,true,true,true,false] (eH Tryz.f25)) Q [(4,.pointer (some ⟨gr,0,none⟩)),(5,.pointer (some ⟨go,0,none⟩)),(6,.pointer (some ⟨ab A,ao A+k*4,none⟩)),(7,.pointer (some ⟨gc,0,none⟩)),(9,.pointer (some ⟨gs,0,none⟩)),(10,.pointer (some ⟨gn,0,none⟩)),(13,.int .i64 p1)] [am gs [.slice As s.length cs] 95,ak (.slice As s.length cs) s,am gp [.slice Ap fs.length cp] 24,am gm [.slice a.Af m.frames.length a.cf,.slice a.Ab m.blocks.length a.cb,.slice a.Ai m.inn.length a.ci,.slice a.Ao m.out.length a.co,.int .i64 m.status,.int .i64 m.trap] 29,am gr rz 29,am go [.slice A (k+1) c,.slice Ab m.blocks.length cb,.slice Ai m.inn.length ci,.slice Ao m.out.length co,.int .i64 m.status,.int .i64 m.trap] 29,am gc [.int .i64 o.c,.int .i64 o.a] 49,am gf [fx0,fx1,.int .i64 fr,fx3] 110,am gn [.int .i64 (s.length:Int)] 3,ak (.slice A (k+1) c) (li.map Prod.fst++ [(⟨f,p0,.slice Al l.length cl,.slice As s.length cs⟩:aJ)]),ak (.slice Al l.length cl) l,cT li,ak (.slice Ab m.blocks.length cb) m.blocks,ak (.slice Ai m.inn.length ci) m.inn,ak (.slice Ao m.out.length co) m.out]:=by
 have hsl:=R.sl
 have hloc:0≤o.a∧o.a<l.length:=R.nd.loc (.inr hc)
 have h1:1≤s.length:=R.nd.one (by omega)
 have hv:s.getD (s.length - 1) default=aK s:=dG.symm
 have hvi:aX (aK s).n:=by rw[dG];exact R.si _ (cL (by omega))
 have hlm:(li.map Prod.fst).length=k:=by rw[List.length_map];exact R.hk
 have hd:=fC s
 refine dz (fun w h=>eL h (xs:=s) (.s .a)) fun hcap=>?_
 refine ac<|bN (.still 0 (.still 1 (.still 2 (.still 3 (.still 4 (.still 5 (.still 6 (.still 7 (.still 8 (.still 9 (.still 10 (.still 11 (.pick 12 .done .stop))))))))))))) [12] rfl (by kernel_rfl) (by kernel_rfl) ?_
 refine aW ha 3 [4,5,6,7,9,10,13,197] rfl<|an rfl (a9 (d8 (j:=2) hlm fc rfl) rfl rfl a5) rfl rfl ha ?_
 refine aW ha 1 [4,5,6,9,10,13,198,199] rfl<|an rfl (ai fc aq rfl rfl (by rfl)) rfl rfl ha ?_
 refine an rfl (ai fc a5 rfl rfl (by rfl)) rfl rfl ha ?_
 refine an rfl (ai fc aq rfl rfl (by rfl)) rfl rfl ha ?_
 refine an rfl (bt rfl rfl rfl (by omega)) rfl rfl ha ?_
 refine cG (t:=203) (v':= .int .i64 ((s.length - 1:Nat):Int)) rfl (by congr 1;omega) ?_
 refine an rfl (aQ (k:=(s.length - 1)) aw aD (SF.own (xs:=s) rfl fc) (by omega) rfl rfl rfl) rfl rfl ha ?_
 refine an rfl (cu (SF.val (SF.own rfl fc) (show s.length - 1<s.length by omega) default) rfl rfl db aD) rfl rfl ha ?_
 rw[hv]
 refine cG (t:=200) (v':= .int .i64 ((o.a.toNat:Nat):Int)) rfl (by congr 1;omega) ?_
 refine an rfl (aQ (k:=o.a.toNat) aw aD (SF.own (xs:=l) rfl fc) (by omega) rfl rfl rfl) rfl rfl ha ?_
 refine aC rfl (eE (α:=aM) (A:=Al) (c:=cl) (aK s) default (xs':=l.set o.a.toNat (aK s)) rfl fc (by omega) hvi aD rfl rfl rfl rfl rfl rfl rfl rfl) rfl rfl (.inl rfl) (fun _ _=>?_) ax
 refine cA<|aa<|af (ai fc a5 rfl rfl (by rfl)) rfl rfl ?_
 refine af (ai fc aq rfl rfl (by rfl)) rfl rfl ?_
 refine af (bt rfl rfl rfl (by omega)) rfl rfl<|bG (t:=209) (v':= .int .i64 ((dl s).length:Int)) rfl (by congr 1;omega) ?_
 refine af (ff (k:=(dl s).length) aw aD (by omega) rfl rfl rfl) rfl rfl<|ag (aG _ fc cS rfl rfl rfl rfl rfl (by rfl) rfl (by rfl)) rfl rfl (fun _ _=>?_)
 refine ma (dl s) fc (kv s) ?_
 refine bB<|dN (K (dl s) As cs (l.set o.a.toNat (aK s)) m.blocks Ab cb m.inn Ai ci m.out Ao co m.status p1 ⟨R.pi.2.2,R.hms⟩ (by dsimp only[bJ];rw[if_neg (by omega)];rw[if_neg (by omega)];rw[if_neg (by omega)];rw[if_neg (by omega)];rw[if_neg (by omega)];rw[if_neg (by omega)];rw[if_neg (by omega)];rw[if_neg (by omega)];rw[if_pos hc])) ⟨rfl,rfl,rfl,rfl,rfl,trivial⟩ (fun w h=>by rw[List.length_set];exact h.msub ms)
set_option maxRecDepth 100000 in
set_option maxHeartbeats 2000000 in
theorem CK (R:iU B w0 fs m a li k Ap cp f p0 p1 l s o fr) (hc:o.c=10) (K:∀(s':List aM) (As':Option Addr) (cs':Nat) (l':List aM) (b':List (List Int)) (Ab':Option Addr) (cb':Nat) (i':List Int) (Ai':Option Addr) (ci':Nat) (o':List Int) (Ao':Option Addr) (co':Nat) (st' nx:Int),aX nx∧aX st'→bJ fs m (li.map Prod.snd) ⟨f,p1,l,s⟩ o= .inr ⟨li.map Prod.snd++ [⟨f,nx,l',s'⟩],b',i',o',st',m.trap⟩→XW ⟨551,[]⟩ B w0 Q .normal [(4,.pointer (some ⟨gr,0,none⟩)),(5,.pointer (some ⟨go,0,none⟩)),(6,.pointer (some ⟨ab A,ao A+k*4,none⟩)),(9,.pointer (some ⟨gs,0,none⟩)),(13,.int .i64 nx)] (am gs [.slice As' s'.length cs'] 95::ak (.slice As' s'.length cs') s'::am gr rz 29::am go [.slice A (k+1) c,.slice Ab' b'.length cb',.slice Ai' i'.length ci',.slice Ao' o'.length co',.int .i64 st',.int .i64 m.trap] 29::ak (.slice A (k+1) c) (li.map Prod.fst++ [(⟨f,p0,.slice Al l'.length cl,.slice As s.length cs⟩:aJ)])::ak (.slice Al l'.length cl) l'::cT li::ak (.slice Ab' b'.length cb') b'::ak (.slice Ai' i'.length ci') i'::ak (.slice Ao' o'.length co') o':: [])):CW Tryz.prog ⟨551,[]⟩ B w0 (il [true,true,true,true,true,true,true,true,true,true,true,false,true,false,true,true,true,true,true,true,true,true,true,true,true,true,true,true,true,true,true,true,true,false] (eH Tryz.f25)) Q [(4,.pointer (some ⟨gr,0,none⟩)),(5,.pointer (some ⟨go,0,none⟩)),(6,.pointer (some ⟨ab A,ao A+k*4,none⟩)),(7,.pointer (some ⟨gc,0,none⟩)),(9,.pointer (some ⟨gs,0,none⟩))] [am gs [.slice As s.length cs] 95,ak (.slice As s.length cs) s,am gp [.slice Ap fs.length cp] 24,am gm [.slice a.Af m.frames.length a.cf,.slice a.Ab m.blocks.length a.cb,.slice a.Ai m.inn.length a.ci,.slice a.Ao m.out.length a.co,.int .i64 m.status,.int .i64 m.trap] 29,am gr rz 29,am go [.slice A (k+1) c,.slice Ab m.blocks.length cb,.slice Ai m.inn.length ci,.slice Ao m.out.length co,.int .i64 m.status,.int .i64 m.trap] 29,am gc [.int .i64 o.c,.int .i64 o.a] 49,am gf [fx0,fx1,.int .i64 fr,fx3] 110,am gn [.int .i64 (s.length:Int)] 3,ak (.slice A (k+1) c) (li.map Prod.fst++ [(⟨f,p0,.slice Al l.length cl,.slice As s.length cs⟩:aJ)]),ak (.slice Al l.length cl) l,cT li,ak (.slice Ab m.blocks.length cb) m.blocks,ak (.slice Ai m.inn.length ci) m.inn,ak (.slice Ao m.out.length co) m.out]:=by
 have hsl:=R.sl
 refine aa<|rn 1 [4,5,6,9,213] rfl<|af (ai fc aq rfl rfl (by rfl)) rfl rfl ?_
 refine rn 1 [4,5,6,9,13] rfl<|bB<|dN (K s As cs l m.blocks Ab cb m.inn Ai ci m.out Ao co m.status o.a ⟨R.oa,R.hms⟩ (by dsimp only[bJ];rw[if_neg (by omega)];rw[if_neg (by omega)];rw[if_neg (by omega)];rw[if_neg (by omega)];rw[if_neg (by omega)];rw[if_neg (by omega)];rw[if_neg (by omega)];rw[if_neg (by omega)];rw[if_neg (by omega)];rw[if_pos hc])) ⟨rfl,rfl,rfl,rfl,rfl,trivial⟩ me
set_option maxRecDepth 100000 in
set_option maxHeartbeats 2000000 in
theorem CJ (R:iU B w0 fs m a li k Ap cp f p0 p1 l s o fr) (hc:o.c=11) (K:∀(s':List aM) (As':Option Addr) (cs':Nat) (l':List aM) (b':List (List Int)) (Ab':Option Addr) (cb':Nat) (i':List Int) (Ai':Option Addr) (ci':Nat) (o':List Int) (Ao':Option Addr) (co':Nat) (st' nx:Int),aX nx∧aX st'→bJ fs m (li.map Prod.snd) ⟨f,p1,l,s⟩ o= .inr ⟨li.map Prod.snd++ [⟨f,nx,l',s'⟩],b',i',o',st',m.trap⟩→XW ⟨551,[]⟩ B w0 Q .normal [(4,.pointer (some ⟨gr,0,none⟩)),(5,.pointer (some ⟨go,0,none⟩)),(6,.pointer (some ⟨ab A,ao A+k*4,none⟩)),(9,.pointer (some ⟨gs,0,none⟩)),(13,.int .i64 nx)] (am gs [.slice As' s'.length cs'] 95::ak (.slice As' s'.length cs') s'::am gr rz 29::am go [.slice A (k+1) c,.slice Ab' b'.length cb',.slice Ai' i'.length ci',.slice Ao' o'.length co',.int .i64 st',.int .i64 m.trap] 29::ak (.slice A (k+1) c) (li.map Prod.fst++ [(⟨f,p0,.slice Al l'.length cl,.slice As s.length cs⟩:aJ)])::ak (.slice Al l'.length cl) l'::cT li::ak (.slice Ab' b'.length cb') b'::ak (.slice Ai' i'.length ci') i'::ak (.slice Ao' o'.length co') o':: [])):CW Tryz.prog ⟨551,[]⟩ B w0 (il [true,true,true,true,true,true,true,true,true,true,true,false,true,false,true,true,true,true,true,true,true,true,true,true,true,true,true,true,true,true,true,true,true,true,true,false] (eH Tryz.f25)) Q [(4,.pointer (some ⟨gr,0,none⟩)),(5,.pointer (some ⟨go,0,none⟩)),(6,.pointer (some ⟨ab A,ao A+k*4,none⟩)),(7,.pointer (some ⟨gc,0,none⟩)),(9,.pointer (some ⟨gs,0,none⟩)),(10,.pointer (some ⟨gn,0,none⟩)),(13,.int .i64 p1)] [am gs [.slice As s.length cs] 95,ak (.slice As s.length cs) s,am gp [.slice Ap fs.length cp] 24,am gm [.slice a.Af m.frames.length a.cf,.slice a.Ab m.blocks.length a.cb,.slice a.Ai m.inn.length a.ci,.slice a.Ao m.out.length a.co,.int .i64 m.status,.int .i64 m.trap] 29,am gr rz 29,am go [.slice A (k+1) c,.slice Ab m.blocks.length cb,.slice Ai m.inn.length ci,.slice Ao m.out.length co,.int .i64 m.status,.int .i64 m.trap] 29,am gc [.int .i64 o.c,.int .i64 o.a] 49,am gf [fx0,fx1,.int .i64 fr,fx3] 110,am gn [.int .i64 (s.length:Int)] 3,ak (.slice A (k+1) c) (li.map Prod.fst++ [(⟨f,p0,.slice Al l.length cl,.slice As s.length cs⟩:aJ)]),ak (.slice Al l.length cl) l,cT li,ak (.slice Ab m.blocks.length cb) m.blocks,ak (.slice Ai m.inn.length ci) m.inn,ak (.slice Ao m.out.length co) m.out]:=by
 have hsl:=R.sl
 have h1:1≤s.length:=R.nd.one (by omega)
 have hv:s.getD (s.length - 1) default=aK s:=dG.symm
 have hvi:aX (aK s).n:=by rw[dG];exact R.si _ (cL (by omega))
 have hd:=fC s
 refine dz (fun w h=>eL h (xs:=s) (.s .a)) fun hcap=>?_
 refine ac<|ac<|aa<|af (ai fc a5 rfl rfl (by rfl)) rfl rfl ?_
 refine af (ai fc aq rfl rfl (by rfl)) rfl rfl ?_
 refine af (bt rfl rfl rfl (by omega)) rfl rfl<|bG (t:=219) (v':= .int .i64 ((s.length - 1:Nat):Int)) rfl (by congr 1;omega) ?_
 refine af (aQ (k:=(s.length - 1)) aw aD (SF.own (xs:=s) rfl fc) (by omega) rfl rfl rfl) rfl rfl ?_
 refine rn 1 [4,5,6,7,9,10,13,221] rfl<|af (a9 (fun w hw=>(SF.val (SF.own rfl fc) (show s.length - 1<s.length by omega) default) w hw 1 _ rfl) rfl rfl aq) rfl rfl ?_
 refine rn 1 [4,5,6,7,9,10,13,223] rfl<|ae ?_
 rw[hv]
 refine ay rfl (fun h0=>?_) (fun h0=>?_)
 ·have h0:(aK s).n=0:=h0
  refine aa<|rn 1 [4,5,6,9,10,224] rfl<|af (ai fc aq rfl rfl (by rfl)) rfl rfl ?_
  refine rn 1 [4,5,6,9,10,13] rfl<|ae<|aa<|af (ai fc a5 rfl rfl (by rfl)) rfl rfl ?_
  refine af (ai fc aq rfl rfl (by rfl)) rfl rfl ?_
  refine af (bt rfl rfl rfl (by omega)) rfl rfl<|bG (t:=228) (v':= .int .i64 ((dl s).length:Int)) rfl (by congr 1;omega) ?_
  refine af (ff (k:=(dl s).length) aw aD (by omega) rfl rfl rfl) rfl rfl<|ag (aG _ fc cS rfl rfl rfl rfl rfl (by rfl) rfl (by rfl)) rfl rfl (fun _ _=>?_)
  refine ma (dl s) fc (kv s) ?_
  refine bB<|dN (K (dl s) As cs l m.blocks Ab cb m.inn Ai ci m.out Ao co m.status o.a ⟨R.oa,R.hms⟩ (by dsimp only[bJ];rw[if_neg (by omega)];rw[if_neg (by omega)];rw[if_neg (by omega)];rw[if_neg (by omega)];rw[if_neg (by omega)];rw[if_neg (by omega)];rw[if_neg (by omega)];rw[if_neg (by omega)];rw[if_neg (by omega)];rw[if_neg (by omega)];rw[if_pos hc,if_pos h0])) ⟨rfl,rfl,rfl,rfl,rfl,trivial⟩ me
 have h0:¬(aK s).n=0:=h0
 refine az (au ?_)
 refine aa<|af (ai fc a5 rfl rfl (by rfl)) rfl rfl ?_
 refine af (ai fc aq rfl rfl (by rfl)) rfl rfl ?_
 refine af (bt rfl rfl rfl (by omega)) rfl rfl<|bG (t:=228) (v':= .int .i64 ((dl s).length:Int)) rfl (by congr 1;omega) ?_
 refine af (ff (k:=(dl s).length) aw aD (by omega) rfl rfl rfl) rfl rfl<|ag (aG _ fc cS rfl rfl rfl rfl rfl (by rfl) rfl (by rfl)) rfl rfl (fun _ _=>?_)
 refine ma (dl s) fc (kv s) ?_
 refine bB<|dN (K (dl s) As cs l m.blocks Ab cb m.inn Ai ci m.out Ao co m.status p1 ⟨R.pi.2.2,R.hms⟩ (by dsimp only[bJ];rw[if_neg (by omega)];rw[if_neg (by omega)];rw[if_neg (by omega)];rw[if_neg (by omega)];rw[if_neg (by omega)];rw[if_neg (by omega)];rw[if_neg (by omega)];rw[if_neg (by omega)];rw[if_neg (by omega)];rw[if_neg (by omega)];rw[if_pos hc,if_neg h0])) ⟨rfl,rfl,rfl,rfl,rfl,trivial⟩ me
end
end
section
theorem kl {α:Type} :∀(l:List α),l.length=6→∃a b c d e f,l= [a,b,c,d,e,f]
 | [a,b,c,d,e,f],_=>⟨a,b,c,d,e,f,rfl⟩
 | [],h=>by cases h
 | [_],h=>by cases h
 | [_,_],h=>by cases h
 | [_,_,_],h=>by cases h
 | [_,_,_,_],h=>by cases h
 | [_,_,_,_,_],h=>by cases h
 | _::_::_::_::_::_::_::_,h=>by simp only[List.length_cons] at h;omega
theorem qJ (z:Int) (L:Nat):bE z 0 ((L:Int) - 1)=decide (0≤z∧z<L):=by
 unfold bE
 rw[←Bool.decide_and]
 exact decide_eq_decide.2 (by omega)
theorem Bg {bs:List (List Int)} (h:cC bs=0) (r:Int) (j:Nat):aX ((blk bs r).getD j 0):=by
 obtain⟨_,_,h3⟩:=kb h
 by_cases hj:j<(blk bs r).length
 ·have h1:=cL (d:=(0:Int)) hj
  refine mr (Classical.byContradiction fun hno=>?_)
  by_cases hk:(r - 1).toNat<bs.length
  ·have h2:blk bs r∈bs:=cL hk
   have:bs.any dk=true:=List.any_eq_true.2 ⟨_,h2,by unfold dk;exact List.any_eq_true.2 ⟨_,h1,by simpa using hno⟩⟩
   rw[h3] at this
   cases this
  have h2:blk bs r= []:=by unfold blk;rw[List.getD_eq_getElem?_getD,List.getElem?_eq_none (by omega)];rfl
  rw[h2] at hj
  cases hj
 rw[List.getD_eq_getElem?_getD,List.getElem?_eq_none (by omega)]
 show aX 0
 decide
theorem vR {l:List (List Int)} {x:List Int} (h:x∈l):x.length≤de l:=by
 unfold de
 induction l with
 | nil=>cases h
 | cons y l ih=>
  rw[List.map_cons,List.sum_cons]
  rcases List.mem_cons.1 h with rfl | h
  ·omega
  have:=ih h
  omega
theorem sW {bs:List (List Int)} (h:cC bs=0) (r:Int):((blk bs r).length:Int)≤40:=by
 obtain⟨_,h2,_⟩:=kb h
 by_cases hk:(r - 1).toNat<bs.length
 ·have h3:blk bs r∈bs:=cL hk
  have:=vR h3
  omega
 have h3:blk bs r= []:=by unfold blk;rw[List.getD_eq_getElem?_getD,List.getElem?_eq_none (by omega)];rfl
 rw[h3]
 simp
section
variable {P:Program} {n:NF} {B:Nat} {w0:World} {H H':List bj} {Q:Exit→Act→World→Prop} {env:cU} {x:Code} {ops:Array Oper} {os:List Oper} {Hq:List bj} {fin:List Nat} {r:gu}
theorem oX {α:Type} [Ow α] [gB α] {v u:Value} {k:Nat} {xs:List (List α)} (hp:cV H (na v xs k u) H') (h:RO P n B w0 ops Q Hq fin r env (ak v xs::H')):RO P n B w0 ops Q Hq fin r env H:=pz (fun _ hw=>(hw.perm hp).rin) h
end
section
variable {B:Nat} {w0:World} {Q:Exit→Act→World→Prop} (gp gm gr go gc gf gs gn k:Nat) (li:List (aJ×aT)) (A Al As Ap Ab Ai Ao:Option Addr) (c cl cs cp cb ci co:Nat) (a:MA) (m:aO) (f p0 p1 fr:Int) (l s:List aM) (o:bT) (fs:List aE) (rz:List Value) (fx0 fx1 fx3:Value)
set_option maxRecDepth 100000 in
set_option maxHeartbeats 1000000 in
theorem CC (R:iU B w0 fs m a li k Ap cp f p0 p1 l s o fr) (hc:o.c=18) (K:∀(s':List aM) (As':Option Addr) (cs':Nat) (l':List aM) (b':List (List Int)) (Ab':Option Addr) (cb':Nat) (i':List Int) (Ai':Option Addr) (ci':Nat) (o':List Int) (Ao':Option Addr) (co':Nat) (st' nx:Int),aX nx∧aX st'→bJ fs m (li.map Prod.snd) ⟨f,p1,l,s⟩ o= .inr ⟨li.map Prod.snd++ [⟨f,nx,l',s'⟩],b',i',o',st',m.trap⟩→XW ⟨551,[]⟩ B w0 Q .normal [(4,.pointer (some ⟨gr,0,none⟩)),(5,.pointer (some ⟨go,0,none⟩)),(6,.pointer (some ⟨ab A,ao A+k*4,none⟩)),(9,.pointer (some ⟨gs,0,none⟩)),(13,.int .i64 nx)] (am gs [.slice As' s'.length cs'] 95::ak (.slice As' s'.length cs') s'::am gr rz 29::am go [.slice A (k+1) c,.slice Ab' b'.length cb',.slice Ai' i'.length ci',.slice Ao' o'.length co',.int .i64 st',.int .i64 m.trap] 29::ak (.slice A (k+1) c) (li.map Prod.fst++ [(⟨f,p0,.slice Al l'.length cl,.slice As s.length cs⟩:aJ)])::ak (.slice Al l'.length cl) l'::cT li::ak (.slice Ab' b'.length cb') b'::ak (.slice Ai' i'.length ci') i'::ak (.slice Ao' o'.length co') o':: [])):CW Tryz.prog ⟨551,[]⟩ B w0 (il [true,true,true,true,true,true,true,true,true,true,true,false,true,false,true,true,true,true,true,true,true,true,true,true,true,true,true,true,true,true,true,true,true,true,true,true,true,true,true,true,true,true,true,true,true,true,true,true,true,false] (eH Tryz.f25)) Q [(4,.pointer (some ⟨gr,0,none⟩)),(5,.pointer (some ⟨go,0,none⟩)),(6,.pointer (some ⟨ab A,ao A+k*4,none⟩)),(9,.pointer (some ⟨gs,0,none⟩)),(13,.int .i64 p1)] [am gs [.slice As s.length cs] 95,ak (.slice As s.length cs) s,am gp [.slice Ap fs.length cp] 24,am gm [.slice a.Af m.frames.length a.cf,.slice a.Ab m.blocks.length a.cb,.slice a.Ai m.inn.length a.ci,.slice a.Ao m.out.length a.co,.int .i64 m.status,.int .i64 m.trap] 29,am gr rz 29,am go [.slice A (k+1) c,.slice Ab m.blocks.length cb,.slice Ai m.inn.length ci,.slice Ao m.out.length co,.int .i64 m.status,.int .i64 m.trap] 29,am gc [.int .i64 o.c,.int .i64 o.a] 49,am gf [fx0,fx1,.int .i64 fr,fx3] 110,am gn [.int .i64 (s.length:Int)] 3,ak (.slice A (k+1) c) (li.map Prod.fst++ [(⟨f,p0,.slice Al l.length cl,.slice As s.length cs⟩:aJ)]),ak (.slice Al l.length cl) l,cT li,ak (.slice Ab m.blocks.length cb) m.blocks,ak (.slice Ai m.inn.length ci) m.inn,ak (.slice Ao m.out.length co) m.out]:=by
 have hsl:=R.sl
 refine aa<|af (ai fc a5 rfl rfl (by rfl)) rfl rfl ?_
 refine af (cq (cs:= [_,_]) ko bq rfl rfl (by rfl)) rfl rfl ?_
 refine ag (bh (cs:= [_,_]) aw aD bq rfl rfl rfl rfl rfl) rfl rfl (fun g1 _=>?_)
 refine ag (dv (α:=aM) (bytes:=16) (⟨true,0⟩) [] rfl aw (bO cZ) rfl (eu fc fc) (dB (show aX 0 by decide)) (by omega) (by omega) rfl rfl rfl) rfl rfl (fun⟨A3,c3⟩ _=>?_)
 try dsimp only
 refine ag (aG _ fc cS rfl rfl rfl rfl rfl (by rfl) rfl (by rfl)) rfl rfl (fun _ _=>?_)
 refine bB<|dN (K (s++ [⟨true,0⟩]) A3 c3 l m.blocks Ab cb m.inn Ai ci m.out Ao co m.status p1 ⟨R.pi.2.2,R.hms⟩ (by dsimp only[bJ];rw[if_neg (by omega)];rw[if_neg (by omega)];rw[if_neg (by omega)];rw[if_neg (by omega)];rw[if_neg (by omega)];rw[if_neg (by omega)];rw[if_neg (by omega)];rw[if_neg (by omega)];rw[if_neg (by omega)];rw[if_neg (by omega)];rw[if_neg (by omega)];rw[if_neg (by omega)];rw[if_neg (by omega)];rw[if_neg (by omega)];dsimp only[eC];rw[if_neg (by omega)];rw[if_neg (by omega)];rw[if_neg (by omega)];rw[if_neg (by omega)];rw[if_pos hc])) ⟨rfl,rfl,rfl,rfl,rfl,trivial⟩ me
set_option maxRecDepth 100000 in
set_option maxHeartbeats 1000000 in
theorem CA (R:iU B w0 fs m a li k Ap cp f p0 p1 l s o fr) (hc:o.c=20) (hrz:rz.length=6) (K:∀(s':List aM) (As':Option Addr) (cs':Nat) (l':List aM) (b':List (List Int)) (Ab':Option Addr) (cb':Nat) (i':List Int) (Ai':Option Addr) (ci':Nat) (o':List Int) (Ao':Option Addr) (co':Nat) (st' nx:Int),aX nx∧aX st'→bJ fs m (li.map Prod.snd) ⟨f,p1,l,s⟩ o= .inr ⟨li.map Prod.snd++ [⟨f,nx,l',s'⟩],b',i',o',st',m.trap⟩→XW ⟨551,[]⟩ B w0 Q .normal [(4,.pointer (some ⟨gr,0,none⟩)),(5,.pointer (some ⟨go,0,none⟩)),(6,.pointer (some ⟨ab A,ao A+k*4,none⟩)),(9,.pointer (some ⟨gs,0,none⟩)),(13,.int .i64 nx)] (am gs [.slice As' s'.length cs'] 95::ak (.slice As' s'.length cs') s'::am gr rz 29::am go [.slice A (k+1) c,.slice Ab' b'.length cb',.slice Ai' i'.length ci',.slice Ao' o'.length co',.int .i64 st',.int .i64 m.trap] 29::ak (.slice A (k+1) c) (li.map Prod.fst++ [(⟨f,p0,.slice Al l'.length cl,.slice As s.length cs⟩:aJ)])::ak (.slice Al l'.length cl) l'::cT li::ak (.slice Ab' b'.length cb') b'::ak (.slice Ai' i'.length ci') i'::ak (.slice Ao' o'.length co') o':: [])) (KT:∀(y:aO) (g:MA),(∃why,bJ fs m (li.map Prod.snd) ⟨f,p1,l,s⟩ o= .inl why∧y= {m with status:=3,trap:=why})→XW ⟨551,[]⟩ B w0 Q .ret [(4,.pointer (some ⟨gr,0,none⟩))] (am gr [.slice g.Af y.frames.length g.cf,.slice g.Ab y.blocks.length g.cb,.slice g.Ai y.inn.length g.ci,.slice g.Ao y.out.length g.co,.int .i64 y.status,.int .i64 y.trap] 29::ak (.slice g.Af y.frames.length g.cf) y.frames::ak (.slice g.Ab y.blocks.length g.cb) y.blocks::ak (.slice g.Ai y.inn.length g.ci) y.inn::ak (.slice g.Ao y.out.length g.co) y.out:: [])):CW Tryz.prog ⟨551,[]⟩ B w0 (il [true,true,true,true,true,true,true,true,true,true,true,false,true,false,true,true,true,true,true,true,true,true,true,true,true,true,true,true,true,true,true,true,true,true,true,true,true,true,true,true,true,true,true,true,true,true,true,true,true,true,true,true,true,false] (eH Tryz.f25)) Q [(3,.pointer (some ⟨gm,0,none⟩)),(4,.pointer (some ⟨gr,0,none⟩)),(5,.pointer (some ⟨go,0,none⟩)),(6,.pointer (some ⟨ab A,ao A+k*4,none⟩)),(9,.pointer (some ⟨gs,0,none⟩)),(10,.pointer (some ⟨gn,0,none⟩)),(13,.int .i64 p1)] [am gs [.slice As s.length cs] 95,ak (.slice As s.length cs) s,am gp [.slice Ap fs.length cp] 24,am gm [.slice a.Af m.frames.length a.cf,.slice a.Ab m.blocks.length a.cb,.slice a.Ai m.inn.length a.ci,.slice a.Ao m.out.length a.co,.int .i64 m.status,.int .i64 m.trap] 29,am gr rz 29,am go [.slice A (k+1) c,.slice Ab m.blocks.length cb,.slice Ai m.inn.length ci,.slice Ao m.out.length co,.int .i64 m.status,.int .i64 m.trap] 29,am gc [.int .i64 o.c,.int .i64 o.a] 49,am gf [fx0,fx1,.int .i64 fr,fx3] 110,am gn [.int .i64 (s.length:Int)] 3,ak (.slice A (k+1) c) (li.map Prod.fst++ [(⟨f,p0,.slice Al l.length cl,.slice As s.length cs⟩:aJ)]),ak (.slice Al l.length cl) l,cT li,ak (.slice Ab m.blocks.length cb) m.blocks,ak (.slice Ai m.inn.length ci) m.inn,ak (.slice Ao m.out.length co) m.out]:=by
 have hsl:=R.sl
 have h1:1≤s.length:=R.nd.one (by omega)
 obtain⟨z0,z1,z2,z3,z4,z5,rfl⟩:∃z0 z1 z2 z3 z4 z5,rz= [z0,z1,z2,z3,z4,z5]:=kl rz hrz
 have hol:=R.ol
 have hv:s.getD (s.length - 1) default=aK s:=dG.symm
 have hvi:aX (aK s).n:=by rw[dG];exact R.si _ (cL (by omega))
 have hd:=fC s
 refine dz (fun w h=>eL h (xs:=s) (.s .a)) fun hcap=>?_
 refine ac<|ac<|aa<|rn 1 [3,4,5,6,9,10,13,499] rfl<|af (ai fc a7 rfl rfl (by rfl)) rfl rfl ?_
 refine af (aS ah rfl rfl) rfl rfl<|rn 1 [3,4,5,6,9,10,13,502] rfl<|ae<|ay rfl (fun q0=>?_) (fun q0=>?_)
 ·have q0:m.out.length=10:=by have q0:(m.out.length:Int)=10:=q0;omega
  refine ac<|aa<|af (aL (vs:= [_,_,_,_,_,_]) fc aR aA rfl rfl (by rfl) rfl) rfl rfl ?_
  refine ag (cI rfl rfl rfl l5 (fun w hw=>fy a m 5 (by decide) w (R.hm.ro hw) R.fit)) rfl rfl (fun g _=>?_)
  refine ag (aG _ fc aA rfl rfl rfl rfl rfl (by rfl) rfl (by rfl)) rfl rfl (fun _ _=>?_)
  refine ae<|av (aj ?_)
  refine dN (KT {m with status:=3,trap:=5} g ⟨5,by dsimp only[bJ];rw[if_neg (by omega)];rw[if_neg (by omega)];rw[if_neg (by omega)];rw[if_neg (by omega)];rw[if_neg (by omega)];rw[if_neg (by omega)];rw[if_neg (by omega)];rw[if_neg (by omega)];rw[if_neg (by omega)];rw[if_neg (by omega)];rw[if_neg (by omega)];rw[if_neg (by omega)];rw[if_neg (by omega)];rw[if_pos hc,if_pos q0],rfl⟩) ⟨rfl,trivial⟩ me
 have q0:¬m.out.length=10:=by have q0:¬(m.out.length:Int)=10:=q0;omega
 refine az (au ?_)
 refine ac<|bN (.still 0 (.still 1 (.still 2 (.still 3 (.still 4 (.still 5 (.still 6 (.still 7 (.pick 8 (.pick 9 (.calm 10 (.pick 11 .done .stop)) .stop) .stop))))))))) [9,10,11] rfl (by kernel_rfl) (by kernel_rfl) ?_
 refine aW ha 1 [4,5,6,9,10,13,505] rfl<|an rfl (ai fc a7 rfl rfl (by rfl)) rfl rfl ha ?_
 refine an rfl (ai fc a5 rfl rfl (by rfl)) rfl rfl ha ?_
 refine an rfl (ai fc aq rfl rfl (by rfl)) rfl rfl ha ?_
 refine an rfl (bt rfl rfl rfl (by omega)) rfl rfl ha ?_
 refine cG (t:=509) (v':= .int .i64 ((s.length - 1:Nat):Int)) rfl (by congr 1;omega) ?_
 refine an rfl (aQ (k:=(s.length - 1)) aw aD (SF.own (xs:=s) rfl fc) (by omega) rfl rfl rfl) rfl rfl ha ?_
 refine aW ha 1 [4,5,6,9,10,13,506,511] rfl<|an rfl (a9 (fun w hw=>(SF.val (SF.own rfl fc) (show s.length - 1<s.length by omega) default) w hw 1 _ rfl) rfl rfl aq) rfl rfl ha ?_
 refine aC rfl (bh (cs:= [_]) ah aH a8 rfl rfl rfl rfl rfl) rfl rfl (.inr fun _=>ha) (fun g1 _=>?_) ax
 rw[hv]
 refine aC rfl (dv (α:=Int) (bytes:=8) (aK s).n [] rfl ah (bO cX) rfl (eu (R:=ak (.slice Ao m.out.length co) m.out) fc fc) (uG hvi) (by omega) (by omega) rfl rfl rfl) rfl rfl (.inl rfl) (fun⟨A4,c4⟩ _=>?_) ax
 try dsimp only
 refine dF 1 [4,5,6,9,10,13,514,515] rfl<|aC rfl (aG _ fc bW rfl rfl rfl rfl rfl (by rfl) rfl (by rfl)) rfl rfl (.inl rfl) (fun _ _=>?_) ax
 refine cA<|aa<|af (ai fc a5 rfl rfl (by rfl)) rfl rfl ?_
 refine af (ai fc aq rfl rfl (by rfl)) rfl rfl ?_
 refine af (bt rfl rfl rfl (by omega)) rfl rfl<|bG (t:=518) (v':= .int .i64 ((dl s).length:Int)) rfl (by congr 1;omega) ?_
 refine af (ff (k:=(dl s).length) aw aD (by omega) rfl rfl rfl) rfl rfl<|ag (aG _ fc cS rfl rfl rfl rfl rfl (by rfl) rfl (by rfl)) rfl rfl (fun _ _=>?_)
 refine ma (dl s) fc (kv s) ?_
 refine bB<|dN (K (dl s) As cs l m.blocks Ab cb m.inn Ai ci (m.out++ [(aK s).n]) A4 c4 m.status p1 ⟨R.pi.2.2,R.hms⟩ (by dsimp only[bJ];rw[if_neg (by omega)];rw[if_neg (by omega)];rw[if_neg (by omega)];rw[if_neg (by omega)];rw[if_neg (by omega)];rw[if_neg (by omega)];rw[if_neg (by omega)];rw[if_neg (by omega)];rw[if_neg (by omega)];rw[if_neg (by omega)];rw[if_neg (by omega)];rw[if_neg (by omega)];rw[if_neg (by omega)];rw[if_pos hc,if_neg q0])) ⟨rfl,rfl,rfl,rfl,rfl,trivial⟩ me
set_option maxRecDepth 100000 in
set_option maxHeartbeats 1000000 in
theorem CD (R:iU B w0 fs m a li k Ap cp f p0 p1 l s o fr) (hc:o.c=17) (hrz:rz.length=6) (K:∀(s':List aM) (As':Option Addr) (cs':Nat) (l':List aM) (b':List (List Int)) (Ab':Option Addr) (cb':Nat) (i':List Int) (Ai':Option Addr) (ci':Nat) (o':List Int) (Ao':Option Addr) (co':Nat) (st' nx:Int),aX nx∧aX st'→bJ fs m (li.map Prod.snd) ⟨f,p1,l,s⟩ o= .inr ⟨li.map Prod.snd++ [⟨f,nx,l',s'⟩],b',i',o',st',m.trap⟩→XW ⟨551,[]⟩ B w0 Q .normal [(4,.pointer (some ⟨gr,0,none⟩)),(5,.pointer (some ⟨go,0,none⟩)),(6,.pointer (some ⟨ab A,ao A+k*4,none⟩)),(9,.pointer (some ⟨gs,0,none⟩)),(13,.int .i64 nx)] (am gs [.slice As' s'.length cs'] 95::ak (.slice As' s'.length cs') s'::am gr rz 29::am go [.slice A (k+1) c,.slice Ab' b'.length cb',.slice Ai' i'.length ci',.slice Ao' o'.length co',.int .i64 st',.int .i64 m.trap] 29::ak (.slice A (k+1) c) (li.map Prod.fst++ [(⟨f,p0,.slice Al l'.length cl,.slice As s.length cs⟩:aJ)])::ak (.slice Al l'.length cl) l'::cT li::ak (.slice Ab' b'.length cb') b'::ak (.slice Ai' i'.length ci') i'::ak (.slice Ao' o'.length co') o':: [])) (KT:∀(y:aO) (g:MA),(∃why,bJ fs m (li.map Prod.snd) ⟨f,p1,l,s⟩ o= .inl why∧y= {m with status:=3,trap:=why})→XW ⟨551,[]⟩ B w0 Q .ret [(4,.pointer (some ⟨gr,0,none⟩))] (am gr [.slice g.Af y.frames.length g.cf,.slice g.Ab y.blocks.length g.cb,.slice g.Ai y.inn.length g.ci,.slice g.Ao y.out.length g.co,.int .i64 y.status,.int .i64 y.trap] 29::ak (.slice g.Af y.frames.length g.cf) y.frames::ak (.slice g.Ab y.blocks.length g.cb) y.blocks::ak (.slice g.Ai y.inn.length g.ci) y.inn::ak (.slice g.Ao y.out.length g.co) y.out:: [])):CW Tryz.prog ⟨551,[]⟩ B w0 (il [true,true,true,true,true,true,true,true,true,true,true,false,true,false,true,true,true,true,true,true,true,true,true,true,true,true,true,true,true,true,true,true,true,true,true,true,true,true,true,true,true,true,true,true,true,true,true,false] (eH Tryz.f25)) Q [(3,.pointer (some ⟨gm,0,none⟩)),(4,.pointer (some ⟨gr,0,none⟩)),(5,.pointer (some ⟨go,0,none⟩)),(6,.pointer (some ⟨ab A,ao A+k*4,none⟩)),(9,.pointer (some ⟨gs,0,none⟩)),(10,.pointer (some ⟨gn,0,none⟩)),(11,.func (.func 77) #[] #[]),(12,.func (.func 79) #[] #[.pointer (some ⟨gs,0,none⟩),.pointer (some ⟨gn,0,none⟩),.pointer (some ⟨go,0,none⟩)]),(13,.int .i64 p1)] [am gs [.slice As s.length cs] 95,ak (.slice As s.length cs) s,am gp [.slice Ap fs.length cp] 24,am gm [.slice a.Af m.frames.length a.cf,.slice a.Ab m.blocks.length a.cb,.slice a.Ai m.inn.length a.ci,.slice a.Ao m.out.length a.co,.int .i64 m.status,.int .i64 m.trap] 29,am gr rz 29,am go [.slice A (k+1) c,.slice Ab m.blocks.length cb,.slice Ai m.inn.length ci,.slice Ao m.out.length co,.int .i64 m.status,.int .i64 m.trap] 29,am gc [.int .i64 o.c,.int .i64 o.a] 49,am gf [fx0,fx1,.int .i64 fr,fx3] 110,am gn [.int .i64 (s.length:Int)] 3,ak (.slice A (k+1) c) (li.map Prod.fst++ [(⟨f,p0,.slice Al l.length cl,.slice As s.length cs⟩:aJ)]),ak (.slice Al l.length cl) l,cT li,ak (.slice Ab m.blocks.length cb) m.blocks,ak (.slice Ai m.inn.length ci) m.inn,ak (.slice Ao m.out.length co) m.out]:=by
 have hsl:=R.sl
 have h1:1≤s.length:=R.nd.one (by omega)
 have hlen:=R.nd.len hc
 obtain⟨z0,z1,z2,z3,z4,z5,rfl⟩:∃z0 z1 z2 z3 z4 z5,rz= [z0,z1,z2,z3,z4,z5]:=kl rz hrz
 have hv:s.getD (s.length - 1) default=aK s:=dG.symm
 have hvi:aX (aK s).n:=by rw[dG];exact R.si _ (cL (by omega))
 have e1:∀v:aM,(dl s++ [v]).length=s.length:=fun v=>by rw[←kU h1 v,List.length_set]
 have hbl:=fU R.bl
 have hbn:((blk m.blocks (aK s).n).length:Int)≤40:=sW R.bl _
 refine ac<|aa<|rn 1 [3,4,5,6,9,10,11,13,455] rfl<|ag (ji rfl rfl rfl Cu (fun w hw=>kK gs gn go s.length m.blocks.length As Ab cs cb (.slice A (k+1) c) (.slice Ai m.inn.length ci) (.slice Ao m.out.length co) (.int .i64 m.status) (.int .i64 m.trap) s m.blocks 1 (aK s) rfl rfl ⟨by decide,by omega⟩ hv hlen w (hw.msub (.s fc (.s fc (.s fc (.s fc (.s fc .r)))))))) rfl rfl (fun g _=>?_)
 refine rn 5 [3,4,5,6,9,10,11,13,23,24] rfl<|ae<|ac<|ac<|aa<|rn 2 [3,4,5,6,9,10,11,13,23,460] rfl<|ae<|cJ (t:=460) (v':= .bool (decide ((aK s).n=0))) rfl (by rw[Bool.not_not]) ?_
 refine ay rfl (fun h0=>?_) (fun h0=>?_)
 ·have h0:(aK s).n=0:=h0
  simp only[if_pos h0]
  refine ac<|aa<|af (aL (vs:= [_,_,_,_,_,_]) fc aR aA rfl rfl (by rfl) rfl) rfl rfl ?_
  refine ag (cI rfl rfl rfl l5 (fun w hw=>fy a m 1 (by decide) w (R.hm.ro hw) R.fit)) rfl rfl (fun g _=>?_)
  refine ag (aG _ fc aA rfl rfl rfl rfl rfl (by rfl) rfl (by rfl)) rfl rfl (fun _ _=>?_)
  refine ae<|av (aj ?_)
  refine dN (KT {m with status:=3,trap:=1} g ⟨1,by dsimp only[bJ];rw[if_neg (by omega)];rw[if_neg (by omega)];rw[if_neg (by omega)];rw[if_neg (by omega)];rw[if_neg (by omega)];rw[if_neg (by omega)];rw[if_neg (by omega)];rw[if_neg (by omega)];rw[if_neg (by omega)];rw[if_neg (by omega)];rw[if_neg (by omega)];rw[if_neg (by omega)];rw[if_neg (by omega)];rw[if_neg (by omega)];dsimp only[eC];rw[if_neg (by omega)];rw[if_neg (by omega)];rw[if_neg (by omega)];rw[if_pos hc,if_pos h0],rfl⟩) ⟨rfl,trivial⟩ me
 have h0:¬(aK s).n=0:=h0
 simp only[if_neg h0]
 refine az (au ?_)
 refine bN (.still 0 (.still 1 (.still 2 (.still 3 (.still 4 (.still 5 (.pick 6 (.still 7 (.pick 8 .done .stop)) .stop))))))) [8] rfl (by kernel_rfl) (by kernel_rfl) ?_
 refine an rfl (ai fc a5 rfl rfl (by rfl)) rfl rfl ha ?_
 refine an rfl (ai fc aq rfl rfl (by rfl)) rfl rfl ha ?_
 refine an rfl (bt rfl rfl rfl (by omega)) rfl rfl ha ?_
 refine aW ha 2 [4,5,6,9,13,463,465,466,467] rfl<|an rfl (aS ah rfl rfl) rfl rfl ha ?_
 refine aC rfl (gN rfl rfl rfl kH (fun w hw=>gU ((blk m.blocks (aK s).n).length:Int) ⟨by omega,by omega⟩ w)) rfl rfl (.inr fun _=>ha) (fun _ _=>?_) ax
 refine cG (t:=465) (v':= .int .i64 ((s.length - 1:Nat):Int)) rfl (by congr 1;omega) ?_
 refine an rfl (aQ (k:=(s.length - 1)) aw aD (SF.own (xs:=s) rfl fc) (by omega) rfl rfl rfl) rfl rfl ha ?_
 refine aC rfl (eE (α:=aM) (A:=As) (c:=cs) (cy (blk m.blocks (aK s).n).length) default (xs':=dl s++ [cy (blk m.blocks (aK s).n).length]) (kU h1 _).symm fc (by omega) (hJ _) aD rfl rfl rfl rfl rfl rfl rfl rfl) rfl rfl (.inl rfl) (fun _ _=>?_) ax
 refine oX fc ?_
 refine cd<|dN (K (dl s++ [cy (blk m.blocks (aK s).n).length]) As cs l m.blocks Ab cb m.inn Ai ci m.out Ao co m.status p1 ⟨R.pi.2.2,R.hms⟩ (by dsimp only[bJ];rw[if_neg (by omega)];rw[if_neg (by omega)];rw[if_neg (by omega)];rw[if_neg (by omega)];rw[if_neg (by omega)];rw[if_neg (by omega)];rw[if_neg (by omega)];rw[if_neg (by omega)];rw[if_neg (by omega)];rw[if_neg (by omega)];rw[if_neg (by omega)];rw[if_neg (by omega)];rw[if_neg (by omega)];rw[if_neg (by omega)];dsimp only[eC];rw[if_neg (by omega)];rw[if_neg (by omega)];rw[if_neg (by omega)];rw[if_pos hc,if_neg h0])) ⟨rfl,rfl,rfl,rfl,rfl,trivial⟩ (fun w h=>by rw[e1];exact h.msub ms)
set_option maxRecDepth 100000 in
set_option maxHeartbeats 1000000 in
theorem CF (R:iU B w0 fs m a li k Ap cp f p0 p1 l s o fr) (hc:o.c=15) (hrz:rz.length=6) (K:∀(s':List aM) (As':Option Addr) (cs':Nat) (l':List aM) (b':List (List Int)) (Ab':Option Addr) (cb':Nat) (i':List Int) (Ai':Option Addr) (ci':Nat) (o':List Int) (Ao':Option Addr) (co':Nat) (st' nx:Int),aX nx∧aX st'→bJ fs m (li.map Prod.snd) ⟨f,p1,l,s⟩ o= .inr ⟨li.map Prod.snd++ [⟨f,nx,l',s'⟩],b',i',o',st',m.trap⟩→XW ⟨551,[]⟩ B w0 Q .normal [(4,.pointer (some ⟨gr,0,none⟩)),(5,.pointer (some ⟨go,0,none⟩)),(6,.pointer (some ⟨ab A,ao A+k*4,none⟩)),(9,.pointer (some ⟨gs,0,none⟩)),(13,.int .i64 nx)] (am gs [.slice As' s'.length cs'] 95::ak (.slice As' s'.length cs') s'::am gr rz 29::am go [.slice A (k+1) c,.slice Ab' b'.length cb',.slice Ai' i'.length ci',.slice Ao' o'.length co',.int .i64 st',.int .i64 m.trap] 29::ak (.slice A (k+1) c) (li.map Prod.fst++ [(⟨f,p0,.slice Al l'.length cl,.slice As s.length cs⟩:aJ)])::ak (.slice Al l'.length cl) l'::cT li::ak (.slice Ab' b'.length cb') b'::ak (.slice Ai' i'.length ci') i'::ak (.slice Ao' o'.length co') o':: [])) (KT:∀(y:aO) (g:MA),(∃why,bJ fs m (li.map Prod.snd) ⟨f,p1,l,s⟩ o= .inl why∧y= {m with status:=3,trap:=why})→XW ⟨551,[]⟩ B w0 Q .ret [(4,.pointer (some ⟨gr,0,none⟩))] (am gr [.slice g.Af y.frames.length g.cf,.slice g.Ab y.blocks.length g.cb,.slice g.Ai y.inn.length g.ci,.slice g.Ao y.out.length g.co,.int .i64 y.status,.int .i64 y.trap] 29::ak (.slice g.Af y.frames.length g.cf) y.frames::ak (.slice g.Ab y.blocks.length g.cb) y.blocks::ak (.slice g.Ai y.inn.length g.ci) y.inn::ak (.slice g.Ao y.out.length g.co) y.out:: [])):CW Tryz.prog ⟨551,[]⟩ B w0 (il [true,true,true,true,true,true,true,true,true,true,true,false,true,false,true,true,true,true,true,true,true,true,true,true,true,true,true,true,true,true,true,true,true,true,true,true,true,true,true,true,true,true,true,false] (eH Tryz.f25)) Q [(3,.pointer (some ⟨gm,0,none⟩)),(4,.pointer (some ⟨gr,0,none⟩)),(5,.pointer (some ⟨go,0,none⟩)),(6,.pointer (some ⟨ab A,ao A+k*4,none⟩)),(9,.pointer (some ⟨gs,0,none⟩)),(10,.pointer (some ⟨gn,0,none⟩)),(11,.func (.func 77) #[] #[]),(12,.func (.func 79) #[] #[.pointer (some ⟨gs,0,none⟩),.pointer (some ⟨gn,0,none⟩),.pointer (some ⟨go,0,none⟩)]),(13,.int .i64 p1)] [am gs [.slice As s.length cs] 95,ak (.slice As s.length cs) s,am gp [.slice Ap fs.length cp] 24,am gm [.slice a.Af m.frames.length a.cf,.slice a.Ab m.blocks.length a.cb,.slice a.Ai m.inn.length a.ci,.slice a.Ao m.out.length a.co,.int .i64 m.status,.int .i64 m.trap] 29,am gr rz 29,am go [.slice A (k+1) c,.slice Ab m.blocks.length cb,.slice Ai m.inn.length ci,.slice Ao m.out.length co,.int .i64 m.status,.int .i64 m.trap] 29,am gc [.int .i64 o.c,.int .i64 o.a] 49,am gf [fx0,fx1,.int .i64 fr,fx3] 110,am gn [.int .i64 (s.length:Int)] 3,ak (.slice A (k+1) c) (li.map Prod.fst++ [(⟨f,p0,.slice Al l.length cl,.slice As s.length cs⟩:aJ)]),ak (.slice Al l.length cl) l,cT li,ak (.slice Ab m.blocks.length cb) m.blocks,ak (.slice Ai m.inn.length ci) m.inn,ak (.slice Ao m.out.length co) m.out]:=by
 have hsl:=R.sl
 have h1:2≤s.length:=R.nd.two (by omega)
 have hlen:=R.nd.get hc
 obtain⟨z0,z1,z2,z3,z4,z5,rfl⟩:∃z0 z1 z2 z3 z4 z5,rz= [z0,z1,z2,z3,z4,z5]:=kl rz hrz
 have hv:s.getD (s.length - 1) default=aK s:=dG.symm
 have hvi:aX (aK s).n:=by rw[dG];exact R.si _ (cL (by omega))
 have hv2:s.getD (s.length - 2) default=aK (dl s):=(gE (by omega)).symm
 have hvi2:aX (aK (dl s)).n:=by rw[gE (by omega)];exact R.si _ (cL (by omega))
 have hd:=og s
 refine dz (fun w h=>eL h (xs:=s) (.s .a)) fun hcap=>?_
 have hbl:=fU R.bl
 have hbn:((blk m.blocks (aK (dl s)).n).length:Int)≤40:=sW R.bl _
 refine ac<|aa<|rn 1 [3,4,5,6,9,10,11,13,372] rfl<|ag (ji rfl rfl rfl Cu (fun w hw=>kK gs gn go s.length m.blocks.length As Ab cs cb (.slice A (k+1) c) (.slice Ai m.inn.length ci) (.slice Ao m.out.length co) (.int .i64 m.status) (.int .i64 m.trap) s m.blocks 2 (aK (dl s)) rfl rfl ⟨by decide,by omega⟩ hv2 hlen w (hw.msub (.s fc (.s fc (.s fc (.s fc (.s fc .r)))))))) rfl rfl (fun g _=>?_)
 refine rn 5 [3,4,5,6,9,10,11,13,19,20] rfl<|ae<|ac<|ac<|aa<|rn 2 [3,4,5,6,9,10,11,13,19,377] rfl<|ae<|cJ (t:=377) (v':= .bool (decide ((aK (dl s)).n=0))) rfl (by rw[Bool.not_not]) ?_
 refine ay rfl (fun h0=>?_) (fun h0=>?_)
 ·have h0:(aK (dl s)).n=0:=h0
  simp only[if_pos h0]
  refine ac<|aa<|af (aL (vs:= [_,_,_,_,_,_]) fc aR aA rfl rfl (by rfl) rfl) rfl rfl ?_
  refine ag (cI rfl rfl rfl l5 (fun w hw=>fy a m 1 (by decide) w (R.hm.ro hw) R.fit)) rfl rfl (fun g _=>?_)
  refine ag (aG _ fc aA rfl rfl rfl rfl rfl (by rfl) rfl (by rfl)) rfl rfl (fun _ _=>?_)
  refine ae<|av (aj ?_)
  refine dN (KT {m with status:=3,trap:=1} g ⟨1,by dsimp only[bJ];rw[if_neg (by omega)];rw[if_neg (by omega)];rw[if_neg (by omega)];rw[if_neg (by omega)];rw[if_neg (by omega)];rw[if_neg (by omega)];rw[if_neg (by omega)];rw[if_neg (by omega)];rw[if_neg (by omega)];rw[if_neg (by omega)];rw[if_neg (by omega)];rw[if_neg (by omega)];rw[if_neg (by omega)];rw[if_neg (by omega)];dsimp only[eC];rw[if_neg (by omega)];rw[if_pos hc,if_pos h0],rfl⟩) ⟨rfl,trivial⟩ me
 have h0:¬(aK (dl s)).n=0:=h0
 simp only[if_neg h0]
 refine az (au ?_)
 refine ac<|ac<|aa<|af (ai fc a5 rfl rfl (by rfl)) rfl rfl ?_
 refine af (ai fc aq rfl rfl (by rfl)) rfl rfl ?_
 refine af (bt rfl rfl rfl (by omega)) rfl rfl<|bG (t:=382) (v':= .int .i64 ((s.length - 1:Nat):Int)) rfl (by congr 1;omega) ?_
 refine af (aQ (k:=(s.length - 1)) aw aD (SF.own (xs:=s) rfl fc) (by omega) rfl rfl rfl) rfl rfl ?_
 refine rn 1 [3,4,5,6,9,10,11,13,19,384] rfl<|af (a9 (fun w hw=>(SF.val (SF.own rfl fc) (show s.length - 1<s.length by omega) default) w hw 1 _ rfl) rfl rfl aq) rfl rfl ?_
 refine rn 1 [3,4,5,6,9,10,11,13,19,385,386] rfl<|af (aS ah rfl rfl) rfl rfl<|af (bt rfl rfl rfl (by omega)) rfl rfl ?_
 rw[hv]
 refine ag (br rfl rfl rfl gC (fun w hw=>(dY (aK s).n 0 (((blk m.blocks (aK (dl s)).n).length:Int) - 1) w).mono fun e w' h=>by obtain⟨h1,rfl⟩:=h;exact⟨h1,Below.refl _ _⟩)) rfl rfl (fun _ _=>?_)
 refine rn 1 [3,4,5,6,9,10,11,13,19,390] rfl<|ae<|cJ (t:=390) (v':= .bool (!decide (0≤(aK s).n∧(aK s).n<(blk m.blocks (aK (dl s)).n).length))) rfl (by rw[qJ]) ?_
 refine bZ rfl (fun q1=>?_) (fun q1=>?_)
 ·have q1:¬(0≤(aK s).n∧(aK s).n<(blk m.blocks (aK (dl s)).n).length):=q1
  refine ac<|aa<|af (aL (vs:= [_,_,_,_,_,_]) fc aR aA rfl rfl (by rfl) rfl) rfl rfl ?_
  refine ag (cI rfl rfl rfl l5 (fun w hw=>fy a m 2 (by decide) w (R.hm.ro hw) R.fit)) rfl rfl (fun g _=>?_)
  refine ag (aG _ fc aA rfl rfl rfl rfl rfl (by rfl) rfl (by rfl)) rfl rfl (fun _ _=>?_)
  refine ae<|av (aj ?_)
  refine dN (KT {m with status:=3,trap:=2} g ⟨2,by dsimp only[bJ];rw[if_neg (by omega)];rw[if_neg (by omega)];rw[if_neg (by omega)];rw[if_neg (by omega)];rw[if_neg (by omega)];rw[if_neg (by omega)];rw[if_neg (by omega)];rw[if_neg (by omega)];rw[if_neg (by omega)];rw[if_neg (by omega)];rw[if_neg (by omega)];rw[if_neg (by omega)];rw[if_neg (by omega)];rw[if_neg (by omega)];dsimp only[eC];rw[if_neg (by omega)];rw[if_pos hc,if_neg h0,if_pos q1],rfl⟩) ⟨rfl,trivial⟩ me
 have q1:0≤(aK s).n∧(aK s).n<(blk m.blocks (aK (dl s)).n).length:=q1
 have q2:(aK s).n<((m.blocks.getD ((aK (dl s)).n - 1).toNat []).length:Int):=q1.2
 refine az (au ?_)
 refine bN (.still 0 (.still 1 (.still 2 (.still 3 (.still 4 (.still 5 (.still 6 (.still 7 (.still 8 (.still 9 (.still 10 (.still 11 (.still 12 (.still 13 (.pick 14 (.pick 15 (.pick 16 (.pick 17 .done .stop) .stop) .stop) .stop))))))))))))))) [16,17] rfl (by kernel_rfl) (by kernel_rfl) ?_
 refine an rfl (ai fc a5 rfl rfl (by rfl)) rfl rfl ha ?_
 refine an rfl (ai fc aq rfl rfl (by rfl)) rfl rfl ha ?_
 refine an rfl (bt rfl rfl rfl (by omega)) rfl rfl ha ?_
 refine cG (t:=395) (v':= .int .i64 ((dl (dl s)).length:Int)) rfl (by congr 1;omega) ?_
 refine an rfl (ff (k:=(dl (dl s)).length) aw aD (by omega) rfl rfl rfl) rfl rfl ha ?_
 refine aW ha 2 [4,5,6,9,10,13,396,397,398] rfl<|an rfl (ai fc a5 rfl rfl (by rfl)) rfl rfl ha ?_
 refine an rfl (ai fc aq rfl rfl (by rfl)) rfl rfl ha ?_
 refine an rfl (bt rfl rfl rfl (by omega)) rfl rfl ha ?_
 refine cG (t:=401) (v':= .int .i64 ((s.length - 1:Nat):Int)) rfl (by congr 1;omega) ?_
 refine an rfl (aQ (k:=(s.length - 1)) aw aD (SF.own (xs:=s) rfl fc) (by omega) rfl rfl rfl) rfl rfl ha ?_
 refine aW ha 1 [4,5,6,9,13,396,397,398,403] rfl<|an rfl (a9 (fun w hw=>(SF.val (SF.own rfl fc) (show s.length - 1<s.length by omega) default) w hw 1 _ rfl) rfl rfl aq) rfl rfl ha ?_
 rw[hv]
 refine cG (t:=404) (v':= .int .i64 (((aK s).n.toNat:Nat):Int)) rfl (by congr 1;omega) ?_
 refine an rfl (aQ (k:=(aK s).n.toNat) ah aH (SF.rin (k:=((aK (dl s)).n - 1).toNat) rfl fc) (by omega) rfl rfl rfl) rfl rfl ha ?_
 refine an rfl (a9 (SF.int (SF.rin (k:=((aK (dl s)).n - 1).toNat) rfl fc) (by omega)) rfl rfl aq) rfl rfl ha ?_
 refine aC rfl (gN rfl rfl rfl kH (fun w hw=>gU ((blk m.blocks (aK (dl s)).n).getD (aK s).n.toNat 0) (Bg R.bl _ _) w)) rfl rfl (.inr fun _=>ha) (fun _ _=>?_) ax
 refine aC rfl (bh (cs:= [_,_]) aw aD bq rfl rfl rfl rfl rfl) rfl rfl (.inr fun _=>ha) (fun g1 _=>?_) ax
 refine py (dl (dl s)) fc (mv s) ?_
 refine aC rfl (dv (α:=aM) (bytes:=16) (cy ((blk m.blocks (aK (dl s)).n).getD (aK s).n.toNat 0)) [] rfl aw (bO cZ) rfl (eu fc fc) (dB (hJ _)) (by omega) (by omega) rfl rfl rfl) rfl rfl (.inl rfl) (fun⟨A3,c3⟩ _=>?_) ax
 try dsimp only
 refine aC rfl (aG _ fc cS rfl rfl rfl rfl rfl (by rfl) rfl (by rfl)) rfl rfl (.inl rfl) (fun _ _=>?_) ax
 refine oX fc ?_
 refine cd<|dN (K (dl (dl s)++ [cy ((blk m.blocks (aK (dl s)).n).getD (aK s).n.toNat 0)]) A3 c3 l m.blocks Ab cb m.inn Ai ci m.out Ao co m.status p1 ⟨R.pi.2.2,R.hms⟩ (by dsimp only[bJ];rw[if_neg (by omega)];rw[if_neg (by omega)];rw[if_neg (by omega)];rw[if_neg (by omega)];rw[if_neg (by omega)];rw[if_neg (by omega)];rw[if_neg (by omega)];rw[if_neg (by omega)];rw[if_neg (by omega)];rw[if_neg (by omega)];rw[if_neg (by omega)];rw[if_neg (by omega)];rw[if_neg (by omega)];rw[if_neg (by omega)];dsimp only[eC];rw[if_neg (by omega)];rw[if_pos hc,if_neg h0,if_neg (fun h=>h q1)])) ⟨rfl,rfl,rfl,rfl,rfl,trivial⟩ me
set_option maxRecDepth 100000 in
set_option maxHeartbeats 1000000 in
theorem CE (R:iU B w0 fs m a li k Ap cp f p0 p1 l s o fr) (hc:o.c=16) (hrz:rz.length=6) (K:∀(s':List aM) (As':Option Addr) (cs':Nat) (l':List aM) (b':List (List Int)) (Ab':Option Addr) (cb':Nat) (i':List Int) (Ai':Option Addr) (ci':Nat) (o':List Int) (Ao':Option Addr) (co':Nat) (st' nx:Int),aX nx∧aX st'→bJ fs m (li.map Prod.snd) ⟨f,p1,l,s⟩ o= .inr ⟨li.map Prod.snd++ [⟨f,nx,l',s'⟩],b',i',o',st',m.trap⟩→XW ⟨551,[]⟩ B w0 Q .normal [(4,.pointer (some ⟨gr,0,none⟩)),(5,.pointer (some ⟨go,0,none⟩)),(6,.pointer (some ⟨ab A,ao A+k*4,none⟩)),(9,.pointer (some ⟨gs,0,none⟩)),(13,.int .i64 nx)] (am gs [.slice As' s'.length cs'] 95::ak (.slice As' s'.length cs') s'::am gr rz 29::am go [.slice A (k+1) c,.slice Ab' b'.length cb',.slice Ai' i'.length ci',.slice Ao' o'.length co',.int .i64 st',.int .i64 m.trap] 29::ak (.slice A (k+1) c) (li.map Prod.fst++ [(⟨f,p0,.slice Al l'.length cl,.slice As s.length cs⟩:aJ)])::ak (.slice Al l'.length cl) l'::cT li::ak (.slice Ab' b'.length cb') b'::ak (.slice Ai' i'.length ci') i'::ak (.slice Ao' o'.length co') o':: [])) (KT:∀(y:aO) (g:MA),(∃why,bJ fs m (li.map Prod.snd) ⟨f,p1,l,s⟩ o= .inl why∧y= {m with status:=3,trap:=why})→XW ⟨551,[]⟩ B w0 Q .ret [(4,.pointer (some ⟨gr,0,none⟩))] (am gr [.slice g.Af y.frames.length g.cf,.slice g.Ab y.blocks.length g.cb,.slice g.Ai y.inn.length g.ci,.slice g.Ao y.out.length g.co,.int .i64 y.status,.int .i64 y.trap] 29::ak (.slice g.Af y.frames.length g.cf) y.frames::ak (.slice g.Ab y.blocks.length g.cb) y.blocks::ak (.slice g.Ai y.inn.length g.ci) y.inn::ak (.slice g.Ao y.out.length g.co) y.out:: [])):CW Tryz.prog ⟨551,[]⟩ B w0 (il [true,true,true,true,true,true,true,true,true,true,true,false,true,false,true,true,true,true,true,true,true,true,true,true,true,true,true,true,true,true,true,true,true,true,true,true,true,true,true,true,true,true,true,true,true,false] (eH Tryz.f25)) Q [(3,.pointer (some ⟨gm,0,none⟩)),(4,.pointer (some ⟨gr,0,none⟩)),(5,.pointer (some ⟨go,0,none⟩)),(6,.pointer (some ⟨ab A,ao A+k*4,none⟩)),(9,.pointer (some ⟨gs,0,none⟩)),(10,.pointer (some ⟨gn,0,none⟩)),(12,.func (.func 79) #[] #[.pointer (some ⟨gs,0,none⟩),.pointer (some ⟨gn,0,none⟩),.pointer (some ⟨go,0,none⟩)]),(13,.int .i64 p1)] [am gs [.slice As s.length cs] 95,ak (.slice As s.length cs) s,am gp [.slice Ap fs.length cp] 24,am gm [.slice a.Af m.frames.length a.cf,.slice a.Ab m.blocks.length a.cb,.slice a.Ai m.inn.length a.ci,.slice a.Ao m.out.length a.co,.int .i64 m.status,.int .i64 m.trap] 29,am gr rz 29,am go [.slice A (k+1) c,.slice Ab m.blocks.length cb,.slice Ai m.inn.length ci,.slice Ao m.out.length co,.int .i64 m.status,.int .i64 m.trap] 29,am gc [.int .i64 o.c,.int .i64 o.a] 49,am gf [fx0,fx1,.int .i64 fr,fx3] 110,am gn [.int .i64 (s.length:Int)] 3,ak (.slice A (k+1) c) (li.map Prod.fst++ [(⟨f,p0,.slice Al l.length cl,.slice As s.length cs⟩:aJ)]),ak (.slice Al l.length cl) l,cT li,ak (.slice Ab m.blocks.length cb) m.blocks,ak (.slice Ai m.inn.length ci) m.inn,ak (.slice Ao m.out.length co) m.out]:=by
 have hsl:=R.sl
 have h1:3≤s.length:=R.nd.three hc
 have hlen:=R.nd.set hc
 obtain⟨z0,z1,z2,z3,z4,z5,rfl⟩:∃z0 z1 z2 z3 z4 z5,rz= [z0,z1,z2,z3,z4,z5]:=kl rz hrz
 have hv:s.getD (s.length - 1) default=aK s:=dG.symm
 have hvi:aX (aK s).n:=by rw[dG];exact R.si _ (cL (by omega))
 have hv2:s.getD (s.length - 2) default=aK (dl s):=(gE (by omega)).symm
 have hvi2:aX (aK (dl s)).n:=by rw[gE (by omega)];exact R.si _ (cL (by omega))
 have hv3:s.getD (s.length - 3) default=aK (dl (dl s)):=(uE (by omega)).symm
 have hd:=Be s
 refine dz (fun w h=>eL h (xs:=s) (.s .a)) fun hcap=>?_
 have hbl:=fU R.bl
 have hbn:((blk m.blocks (aK (dl (dl s))).n).length:Int)≤40:=sW R.bl _
 refine ac<|aa<|rn 1 [3,4,5,6,9,10,13,413] rfl<|ag (ji rfl rfl rfl Cu (fun w hw=>kK gs gn go s.length m.blocks.length As Ab cs cb (.slice A (k+1) c) (.slice Ai m.inn.length ci) (.slice Ao m.out.length co) (.int .i64 m.status) (.int .i64 m.trap) s m.blocks 3 (aK (dl (dl s))) rfl rfl ⟨by decide,by omega⟩ hv3 hlen w (hw.msub (.s fc (.s fc (.s fc (.s fc (.s fc .r)))))))) rfl rfl (fun g _=>?_)
 refine rn 5 [3,4,5,6,9,10,13,21,22] rfl<|ae<|ac<|ac<|aa<|rn 2 [3,4,5,6,9,10,13,21,418] rfl<|ae<|cJ (t:=418) (v':= .bool (decide ((aK (dl (dl s))).n=0))) rfl (by rw[Bool.not_not]) ?_
 refine ay rfl (fun h0=>?_) (fun h0=>?_)
 ·have h0:(aK (dl (dl s))).n=0:=h0
  simp only[if_pos h0]
  refine ac<|aa<|af (aL (vs:= [_,_,_,_,_,_]) fc aR aA rfl rfl (by rfl) rfl) rfl rfl ?_
  refine ag (cI rfl rfl rfl l5 (fun w hw=>fy a m 1 (by decide) w (R.hm.ro hw) R.fit)) rfl rfl (fun g _=>?_)
  refine ag (aG _ fc aA rfl rfl rfl rfl rfl (by rfl) rfl (by rfl)) rfl rfl (fun _ _=>?_)
  refine ae<|av (aj ?_)
  refine dN (KT {m with status:=3,trap:=1} g ⟨1,by dsimp only[bJ];rw[if_neg (by omega)];rw[if_neg (by omega)];rw[if_neg (by omega)];rw[if_neg (by omega)];rw[if_neg (by omega)];rw[if_neg (by omega)];rw[if_neg (by omega)];rw[if_neg (by omega)];rw[if_neg (by omega)];rw[if_neg (by omega)];rw[if_neg (by omega)];rw[if_neg (by omega)];rw[if_neg (by omega)];rw[if_neg (by omega)];dsimp only[eC];rw[if_neg (by omega)];rw[if_neg (by omega)];rw[if_pos hc,if_pos h0],rfl⟩) ⟨rfl,trivial⟩ me
 have h0:¬(aK (dl (dl s))).n=0:=h0
 simp only[if_neg h0]
 refine az (au ?_)
 refine ac<|ac<|aa<|af (ai fc a5 rfl rfl (by rfl)) rfl rfl ?_
 refine af (ai fc aq rfl rfl (by rfl)) rfl rfl ?_
 refine af (bt rfl rfl rfl (by omega)) rfl rfl<|bG (t:=423) (v':= .int .i64 ((s.length - 2:Nat):Int)) rfl (by congr 1;omega) ?_
 refine af (aQ (k:=(s.length - 2)) aw aD (SF.own (xs:=s) rfl fc) (by omega) rfl rfl rfl) rfl rfl ?_
 refine rn 1 [3,4,5,6,9,10,13,21,425] rfl<|af (a9 (fun w hw=>(SF.val (SF.own rfl fc) (show s.length - 2<s.length by omega) default) w hw 1 _ rfl) rfl rfl aq) rfl rfl ?_
 refine rn 1 [3,4,5,6,9,10,13,21,426,427] rfl<|af (aS ah rfl rfl) rfl rfl<|af (bt rfl rfl rfl (by omega)) rfl rfl ?_
 rw[hv2]
 refine ag (br rfl rfl rfl gC (fun w hw=>(dY (aK (dl s)).n 0 (((blk m.blocks (aK (dl (dl s))).n).length:Int) - 1) w).mono fun e w' h=>by obtain⟨h1,rfl⟩:=h;exact⟨h1,Below.refl _ _⟩)) rfl rfl (fun _ _=>?_)
 refine rn 1 [3,4,5,6,9,10,13,21,431] rfl<|ae<|cJ (t:=431) (v':= .bool (!decide (0≤(aK (dl s)).n∧(aK (dl s)).n<(blk m.blocks (aK (dl (dl s))).n).length))) rfl (by rw[qJ]) ?_
 refine bZ rfl (fun q1=>?_) (fun q1=>?_)
 ·have q1:¬(0≤(aK (dl s)).n∧(aK (dl s)).n<(blk m.blocks (aK (dl (dl s))).n).length):=q1
  refine ac<|aa<|af (aL (vs:= [_,_,_,_,_,_]) fc aR aA rfl rfl (by rfl) rfl) rfl rfl ?_
  refine ag (cI rfl rfl rfl l5 (fun w hw=>fy a m 2 (by decide) w (R.hm.ro hw) R.fit)) rfl rfl (fun g _=>?_)
  refine ag (aG _ fc aA rfl rfl rfl rfl rfl (by rfl) rfl (by rfl)) rfl rfl (fun _ _=>?_)
  refine ae<|av (aj ?_)
  refine dN (KT {m with status:=3,trap:=2} g ⟨2,by dsimp only[bJ];rw[if_neg (by omega)];rw[if_neg (by omega)];rw[if_neg (by omega)];rw[if_neg (by omega)];rw[if_neg (by omega)];rw[if_neg (by omega)];rw[if_neg (by omega)];rw[if_neg (by omega)];rw[if_neg (by omega)];rw[if_neg (by omega)];rw[if_neg (by omega)];rw[if_neg (by omega)];rw[if_neg (by omega)];rw[if_neg (by omega)];dsimp only[eC];rw[if_neg (by omega)];rw[if_neg (by omega)];rw[if_pos hc,if_neg h0,if_pos q1],rfl⟩) ⟨rfl,trivial⟩ me
 have q1:0≤(aK (dl s)).n∧(aK (dl s)).n<(blk m.blocks (aK (dl (dl s))).n).length:=q1
 have q2:(aK (dl s)).n<((m.blocks.getD ((aK (dl (dl s))).n - 1).toNat []).length:Int):=q1.2
 have hpl:(put m.blocks (aK (dl (dl s))).n (aK (dl s)).n (aK s).n).length=m.blocks.length:=by unfold put;rw[List.length_set]
 refine az (au ?_)
 refine ac<|bN (.still 0 (.still 1 (.still 2 (.still 3 (.still 4 (.still 5 (.still 6 (.still 7 (.still 8 (.still 9 (.still 10 (.still 11 (.still 12 (.still 13 (.pick 14 .done .stop))))))))))))))) [14] rfl (by kernel_rfl) (by kernel_rfl) ?_
 refine aW ha 1 [4,5,6,9,10,13,434] rfl<|an rfl (ai fc a5 rfl rfl (by rfl)) rfl rfl ha ?_
 refine an rfl (ai fc aq rfl rfl (by rfl)) rfl rfl ha ?_
 refine an rfl (bt rfl rfl rfl (by omega)) rfl rfl ha ?_
 refine cG (t:=437) (v':= .int .i64 ((s.length - 2:Nat):Int)) rfl (by congr 1;omega) ?_
 refine an rfl (aQ (k:=(s.length - 2)) aw aD (SF.own (xs:=s) rfl fc) (by omega) rfl rfl rfl) rfl rfl ha ?_
 refine aW ha 1 [4,5,6,9,10,13,434,439] rfl<|an rfl (a9 (fun w hw=>(SF.val (SF.own rfl fc) (show s.length - 2<s.length by omega) default) w hw 1 _ rfl) rfl rfl aq) rfl rfl ha ?_
 refine an rfl (ai fc a5 rfl rfl (by rfl)) rfl rfl ha ?_
 refine an rfl (ai fc aq rfl rfl (by rfl)) rfl rfl ha ?_
 refine an rfl (bt rfl rfl rfl (by omega)) rfl rfl ha ?_
 rw[hv2]
 refine cG (t:=443) (v':= .int .i64 ((s.length - 1:Nat):Int)) rfl (by congr 1;omega) ?_
 refine an rfl (aQ (k:=(s.length - 1)) aw aD (SF.own (xs:=s) rfl fc) (by omega) rfl rfl rfl) rfl rfl ha ?_
 refine aW ha 1 [4,5,6,9,10,13,434,440,445] rfl<|an rfl (a9 (fun w hw=>(SF.val (SF.own rfl fc) (show s.length - 1<s.length by omega) default) w hw 1 _ rfl) rfl rfl aq) rfl rfl ha ?_
 rw[hv]
 refine cG (t:=440) (v':= .int .i64 (((aK (dl s)).n.toNat:Nat):Int)) rfl (by congr 1;omega) ?_
 refine an rfl (aQ (k:=(aK (dl s)).n.toNat) ah aH (SF.rin (k:=((aK (dl (dl s))).n - 1).toNat) rfl fc) (by omega) rfl rfl rfl) rfl rfl ha ?_
 refine aC rfl (uA (A:=Ab) (m:=m.blocks.length) (c:=cb) (k:=((aK (dl (dl s))).n - 1).toNat) (q:=(aK (dl s)).n.toNat) (xs':=put m.blocks (aK (dl (dl s))).n (aK (dl s)).n (aK s).n) rfl fc (by have:=q1.2;unfold blk at this;omega) hvi aH rfl rfl rfl) rfl rfl (.inl rfl) (fun _ _=>?_) ax
 refine cA<|aa<|af (ai fc a5 rfl rfl (by rfl)) rfl rfl ?_
 refine af (ai fc aq rfl rfl (by rfl)) rfl rfl ?_
 refine af (bt rfl rfl rfl (by omega)) rfl rfl<|bG (t:=450) (v':= .int .i64 ((dl (dl (dl s))).length:Int)) rfl (by congr 1;omega) ?_
 refine af (ff (k:=(dl (dl (dl s))).length) aw aD (by omega) rfl rfl rfl) rfl rfl<|ag (aG _ fc cS rfl rfl rfl rfl rfl (by rfl) rfl (by rfl)) rfl rfl (fun _ _=>?_)
 refine ma (dl (dl (dl s))) fc (Bd s) ?_
 refine bB<|dN (K (dl (dl (dl s))) As cs l (put m.blocks (aK (dl (dl s))).n (aK (dl s)).n (aK s).n) Ab cb m.inn Ai ci m.out Ao co m.status p1 ⟨R.pi.2.2,R.hms⟩ (by dsimp only[bJ];rw[if_neg (by omega)];rw[if_neg (by omega)];rw[if_neg (by omega)];rw[if_neg (by omega)];rw[if_neg (by omega)];rw[if_neg (by omega)];rw[if_neg (by omega)];rw[if_neg (by omega)];rw[if_neg (by omega)];rw[if_neg (by omega)];rw[if_neg (by omega)];rw[if_neg (by omega)];rw[if_neg (by omega)];rw[if_neg (by omega)];dsimp only[eC];rw[if_neg (by omega)];rw[if_neg (by omega)];rw[if_pos hc,if_neg h0,if_neg (fun h=>h q1)])) ⟨rfl,rfl,rfl,rfl,rfl,trivial⟩ (fun w h=>by rw[hpl];exact h.msub ms)
set_option maxRecDepth 100000 in
set_option maxHeartbeats 1000000 in
theorem CB (R:iU B w0 fs m a li k Ap cp f p0 p1 l s o fr) (hc:o.c=19) (K:∀(s':List aM) (As':Option Addr) (cs':Nat) (l':List aM) (b':List (List Int)) (Ab':Option Addr) (cb':Nat) (i':List Int) (Ai':Option Addr) (ci':Nat) (o':List Int) (Ao':Option Addr) (co':Nat) (st' nx:Int),aX nx∧aX st'→bJ fs m (li.map Prod.snd) ⟨f,p1,l,s⟩ o= .inr ⟨li.map Prod.snd++ [⟨f,nx,l',s'⟩],b',i',o',st',m.trap⟩→XW ⟨551,[]⟩ B w0 Q .normal [(4,.pointer (some ⟨gr,0,none⟩)),(5,.pointer (some ⟨go,0,none⟩)),(6,.pointer (some ⟨ab A,ao A+k*4,none⟩)),(9,.pointer (some ⟨gs,0,none⟩)),(13,.int .i64 nx)] (am gs [.slice As' s'.length cs'] 95::ak (.slice As' s'.length cs') s'::am gr rz 29::am go [.slice A (k+1) c,.slice Ab' b'.length cb',.slice Ai' i'.length ci',.slice Ao' o'.length co',.int .i64 st',.int .i64 m.trap] 29::ak (.slice A (k+1) c) (li.map Prod.fst++ [(⟨f,p0,.slice Al l'.length cl,.slice As s.length cs⟩:aJ)])::ak (.slice Al l'.length cl) l'::cT li::ak (.slice Ab' b'.length cb') b'::ak (.slice Ai' i'.length ci') i'::ak (.slice Ao' o'.length co') o':: [])):CW Tryz.prog ⟨551,[]⟩ B w0 (il [true,true,true,true,true,true,true,true,true,true,true,false,true,false,true,true,true,true,true,true,true,true,true,true,true,true,true,true,true,true,true,true,true,true,true,true,true,true,true,true,true,true,true,true,true,true,true,true,true,true,true,false] (eH Tryz.f25)) Q [(4,.pointer (some ⟨gr,0,none⟩)),(5,.pointer (some ⟨go,0,none⟩)),(6,.pointer (some ⟨ab A,ao A+k*4,none⟩)),(9,.pointer (some ⟨gs,0,none⟩)),(10,.pointer (some ⟨gn,0,none⟩)),(11,.func (.func 77) #[] #[]),(12,.func (.func 79) #[] #[.pointer (some ⟨gs,0,none⟩),.pointer (some ⟨gn,0,none⟩),.pointer (some ⟨go,0,none⟩)]),(13,.int .i64 p1)] [am gs [.slice As s.length cs] 95,ak (.slice As s.length cs) s,am gp [.slice Ap fs.length cp] 24,am gm [.slice a.Af m.frames.length a.cf,.slice a.Ab m.blocks.length a.cb,.slice a.Ai m.inn.length a.ci,.slice a.Ao m.out.length a.co,.int .i64 m.status,.int .i64 m.trap] 29,am gr rz 29,am go [.slice A (k+1) c,.slice Ab m.blocks.length cb,.slice Ai m.inn.length ci,.slice Ao m.out.length co,.int .i64 m.status,.int .i64 m.trap] 29,am gc [.int .i64 o.c,.int .i64 o.a] 49,am gf [fx0,fx1,.int .i64 fr,fx3] 110,am gn [.int .i64 (s.length:Int)] 3,ak (.slice A (k+1) c) (li.map Prod.fst++ [(⟨f,p0,.slice Al l.length cl,.slice As s.length cs⟩:aJ)]),ak (.slice Al l.length cl) l,cT li,ak (.slice Ab m.blocks.length cb) m.blocks,ak (.slice Ai m.inn.length ci) m.inn,ak (.slice Ao m.out.length co) m.out]:=by
 have hsl:=R.sl
 have h1:1≤s.length:=R.nd.one (by omega)
 have hlen:=R.isn hc
 have hv:s.getD (s.length - 1) default=aK s:=dG.symm
 have hvi:aX (aK s).n:=by rw[dG];exact R.si _ (cL (by omega))
 have e1:∀v:aM,(dl s++ [v]).length=s.length:=fun v=>by rw[←kU h1 v,List.length_set]
 have hbl:=fU R.bl
 refine ac<|aa<|rn 1 [4,5,6,9,10,11,13,480] rfl<|ag (ji rfl rfl rfl Cu (fun w hw=>kK gs gn go s.length m.blocks.length As Ab cs cb (.slice A (k+1) c) (.slice Ai m.inn.length ci) (.slice Ao m.out.length co) (.int .i64 m.status) (.int .i64 m.trap) s m.blocks 1 (aK s) rfl rfl ⟨by decide,by omega⟩ hv hlen w (hw.msub (.s fc (.s fc (.s fc (.s fc (.s fc .r)))))))) rfl rfl (fun g _=>?_)
 refine rn 5 [4,5,6,9,10,11,13,26] rfl<|ae<|ac<|bN (.still 0 (.still 1 (.still 2 (.still 3 (.pick 4 (.still 5 (.pick 6 .done .stop)) .stop))))) [6] rfl (by kernel_rfl) (by kernel_rfl) ?_
 refine an rfl (ai fc a5 rfl rfl (by rfl)) rfl rfl ha ?_
 refine an rfl (ai fc aq rfl rfl (by rfl)) rfl rfl ha ?_
 refine an rfl (bt rfl rfl rfl (by omega)) rfl rfl ha ?_
 refine aW ha 1 [4,5,6,9,10,11,13,26,484,486,487] rfl<|aC rfl (gN rfl rfl rfl kH (fun w hw=>gU 1 (by decide) w)) rfl rfl (.inr fun _=>ha) (fun _ _=>?_) ax
 refine cG (t:=486) (v':= .int .i64 ((s.length - 1:Nat):Int)) rfl (by congr 1;omega) ?_
 refine an rfl (aQ (k:=(s.length - 1)) aw aD (SF.own (xs:=s) rfl fc) (by omega) rfl rfl rfl) rfl rfl ha ?_
 refine aC rfl (eE (α:=aM) (A:=As) (c:=cs) (cy 1) default (xs':=dl s++ [cy 1]) (kU h1 _).symm fc (by omega) (hJ _) aD rfl rfl rfl rfl rfl rfl rfl rfl) rfl rfl (.inl rfl) (fun _ _=>?_) ax
 refine cA<|ac<|aa<|rn 1 [4,5,6,9,10,11,13,490] rfl<|ae<|bZ rfl (fun h0=>?_) (fun h0=>?_)
 ·have h0:¬(aK s).n=0:=h0
  simp only[if_neg h0]
  refine bN (.still 0 (.still 1 (.still 2 (.still 3 (.pick 4 (.still 5 (.pick 6 .done .stop)) .stop))))) [6] rfl (by kernel_rfl) (by kernel_rfl) ?_
  refine an rfl (ai fc a5 rfl rfl (by rfl)) rfl rfl ha ?_
  refine an rfl (ai fc aq rfl rfl (by rfl)) rfl rfl ha ?_
  refine an rfl (bt rfl rfl rfl (by omega)) rfl rfl ha ?_
  refine aW ha 1 [4,5,6,9,13,491,493,494] rfl<|aC rfl (gN rfl rfl rfl kH (fun w hw=>gU 0 (by decide) w)) rfl rfl (.inr fun _=>ha) (fun _ _=>?_) ax
  refine cG (t:=493) (v':= .int .i64 ((s.length - 1:Nat):Int)) rfl (by congr 1;omega) ?_
  refine an rfl (aQ (k:=(s.length - 1)) aw aD (SF.own (xs:=dl s++ [cy 1]) (e1 _) fc) (by omega) rfl rfl rfl) rfl rfl ha ?_
  refine aC rfl (eE (α:=aM) (A:=As) (c:=cs) (cy 0) default (xs':=dl s++ [cy 0]) (oT (dl s) _ _ (fC s)).symm fc (by omega) (hJ _) aD rfl rfl rfl rfl rfl rfl (by rw[lK _ _ _ (fC s)];rfl) rfl) rfl rfl (.inl rfl) (fun _ _=>?_) ax
  refine oX fc ?_
  refine cd<|dN (K (dl s++ [cy 0]) As cs l m.blocks Ab cb m.inn Ai ci m.out Ao co m.status p1 ⟨R.pi.2.2,R.hms⟩ (by dsimp only[bJ];rw[if_neg (by omega)];rw[if_neg (by omega)];rw[if_neg (by omega)];rw[if_neg (by omega)];rw[if_neg (by omega)];rw[if_neg (by omega)];rw[if_neg (by omega)];rw[if_neg (by omega)];rw[if_neg (by omega)];rw[if_neg (by omega)];rw[if_neg (by omega)];rw[if_neg (by omega)];rw[if_neg (by omega)];rw[if_neg (by omega)];dsimp only[eC];rw[if_neg (by omega)];rw[if_neg (by omega)];rw[if_neg (by omega)];rw[if_neg (by omega)];rw[if_neg (by omega)];rw[if_pos hc,if_neg h0])) ⟨rfl,rfl,rfl,rfl,rfl,trivial⟩ (fun w h=>by rw[e1];exact h.msub ms)
 have h0:(aK s).n=0:=h0
 simp only[if_pos h0]
 refine az<|dN (K (dl s++ [cy 1]) As cs l m.blocks Ab cb m.inn Ai ci m.out Ao co m.status p1 ⟨R.pi.2.2,R.hms⟩ (by dsimp only[bJ];rw[if_neg (by omega)];rw[if_neg (by omega)];rw[if_neg (by omega)];rw[if_neg (by omega)];rw[if_neg (by omega)];rw[if_neg (by omega)];rw[if_neg (by omega)];rw[if_neg (by omega)];rw[if_neg (by omega)];rw[if_neg (by omega)];rw[if_neg (by omega)];rw[if_neg (by omega)];rw[if_neg (by omega)];rw[if_neg (by omega)];dsimp only[eC];rw[if_neg (by omega)];rw[if_neg (by omega)];rw[if_neg (by omega)];rw[if_neg (by omega)];rw[if_neg (by omega)];rw[if_pos hc,if_pos h0])) ⟨rfl,rfl,rfl,rfl,rfl,trivial⟩ (fun w h=>by rw[e1];exact h.msub ms)
set_option maxRecDepth 100000 in
set_option maxHeartbeats 1000000 in
theorem CG (R:iU B w0 fs m a li k Ap cp f p0 p1 l s o fr) (hc:o.c=14) (hrz:rz.length=6) (K:∀(s':List aM) (As':Option Addr) (cs':Nat) (l':List aM) (b':List (List Int)) (Ab':Option Addr) (cb':Nat) (i':List Int) (Ai':Option Addr) (ci':Nat) (o':List Int) (Ao':Option Addr) (co':Nat) (st' nx:Int),aX nx∧aX st'→bJ fs m (li.map Prod.snd) ⟨f,p1,l,s⟩ o= .inr ⟨li.map Prod.snd++ [⟨f,nx,l',s'⟩],b',i',o',st',m.trap⟩→XW ⟨551,[]⟩ B w0 Q .normal [(4,.pointer (some ⟨gr,0,none⟩)),(5,.pointer (some ⟨go,0,none⟩)),(6,.pointer (some ⟨ab A,ao A+k*4,none⟩)),(9,.pointer (some ⟨gs,0,none⟩)),(13,.int .i64 nx)] (am gs [.slice As' s'.length cs'] 95::ak (.slice As' s'.length cs') s'::am gr rz 29::am go [.slice A (k+1) c,.slice Ab' b'.length cb',.slice Ai' i'.length ci',.slice Ao' o'.length co',.int .i64 st',.int .i64 m.trap] 29::ak (.slice A (k+1) c) (li.map Prod.fst++ [(⟨f,p0,.slice Al l'.length cl,.slice As s.length cs⟩:aJ)])::ak (.slice Al l'.length cl) l'::cT li::ak (.slice Ab' b'.length cb') b'::ak (.slice Ai' i'.length ci') i'::ak (.slice Ao' o'.length co') o':: [])) (KT:∀(y:aO) (g:MA),(∃why,bJ fs m (li.map Prod.snd) ⟨f,p1,l,s⟩ o= .inl why∧y= {m with status:=3,trap:=why})→XW ⟨551,[]⟩ B w0 Q .ret [(4,.pointer (some ⟨gr,0,none⟩))] (am gr [.slice g.Af y.frames.length g.cf,.slice g.Ab y.blocks.length g.cb,.slice g.Ai y.inn.length g.ci,.slice g.Ao y.out.length g.co,.int .i64 y.status,.int .i64 y.trap] 29::ak (.slice g.Af y.frames.length g.cf) y.frames::ak (.slice g.Ab y.blocks.length g.cb) y.blocks::ak (.slice g.Ai y.inn.length g.ci) y.inn::ak (.slice g.Ao y.out.length g.co) y.out:: [])):CW Tryz.prog ⟨551,[]⟩ B w0 (il [true,true,true,true,true,true,true,true,true,true,true,false,true,false,true,true,true,true,true,true,true,true,true,true,true,true,true,true,true,true,true,true,true,true,true,true,true,true,true,true,true,false] (eH Tryz.f25)) Q [(3,.pointer (some ⟨gm,0,none⟩)),(4,.pointer (some ⟨gr,0,none⟩)),(5,.pointer (some ⟨go,0,none⟩)),(6,.pointer (some ⟨ab A,ao A+k*4,none⟩)),(9,.pointer (some ⟨gs,0,none⟩)),(10,.pointer (some ⟨gn,0,none⟩)),(13,.int .i64 p1)] [am gs [.slice As s.length cs] 95,ak (.slice As s.length cs) s,am gp [.slice Ap fs.length cp] 24,am gm [.slice a.Af m.frames.length a.cf,.slice a.Ab m.blocks.length a.cb,.slice a.Ai m.inn.length a.ci,.slice a.Ao m.out.length a.co,.int .i64 m.status,.int .i64 m.trap] 29,am gr rz 29,am go [.slice A (k+1) c,.slice Ab m.blocks.length cb,.slice Ai m.inn.length ci,.slice Ao m.out.length co,.int .i64 m.status,.int .i64 m.trap] 29,am gc [.int .i64 o.c,.int .i64 o.a] 49,am gf [fx0,fx1,.int .i64 fr,fx3] 110,am gn [.int .i64 (s.length:Int)] 3,ak (.slice A (k+1) c) (li.map Prod.fst++ [(⟨f,p0,.slice Al l.length cl,.slice As s.length cs⟩:aJ)]),ak (.slice Al l.length cl) l,cT li,ak (.slice Ab m.blocks.length cb) m.blocks,ak (.slice Ai m.inn.length ci) m.inn,ak (.slice Ao m.out.length co) m.out]:=by
 have hsl:=R.sl
 have h1:1≤s.length:=R.nd.one (by omega)
 obtain⟨z0,z1,z2,z3,z4,z5,rfl⟩:∃z0 z1 z2 z3 z4 z5,rz= [z0,z1,z2,z3,z4,z5]:=kl rz hrz
 have hv:s.getD (s.length - 1) default=aK s:=dG.symm
 have hvi:aX (aK s).n:=by rw[dG];exact R.si _ (cL (by omega))
 have e1:∀v:aM,(dl s++ [v]).length=s.length:=fun v=>by rw[←kU h1 v,List.length_set]
 obtain⟨hbl,hb40⟩:=fU R.bl
 refine ac<|aa<|af (ai fc a5 rfl rfl (by rfl)) rfl rfl ?_
 refine af (ai fc aq rfl rfl (by rfl)) rfl rfl ?_
 refine af (bt rfl rfl rfl (by omega)) rfl rfl<|bG (t:=332) (v':= .int .i64 ((s.length - 1:Nat):Int)) rfl (by congr 1;omega) ?_
 refine af (aQ (k:=(s.length - 1)) aw aD (SF.own (xs:=s) rfl fc) (by omega) rfl rfl rfl) rfl rfl ?_
 refine rn 1 [3,4,5,6,9,10,13,334] rfl<|af (a9 (fun w hw=>(SF.val (SF.own rfl fc) (show s.length - 1<s.length by omega) default) w hw 1 _ rfl) rfl rfl aq) rfl rfl ?_
 refine rn 1 [3,4,5,6,9,10,13,18] rfl<|ae<|ac<|ac<|aa<|rn 3 [3,4,5,6,9,10,13,18,338] rfl ?_
 rw[hv]
 have hz39:(aK s).n≤2147483647:=by rw[dG];exact R.sI _ (cL (by omega))
 refine jg 13 rfl [(3,_),(4,_),(5,_),(6,_),(9,_),(10,_),(13,_),(18,_)] [(351,.bool (decide (fg m.blocks (aK s).n≠0)))] ⟨rfl,rfl,rfl,rfl,rfl,rfl,rfl,rfl,trivial⟩ (fun K=>?_) ?_
 ·refine bK (t:=338) rfl (fun q1=>?_) (fun q1=>?_)
  ·have q1:=of_decide_eq_true q1
   refine rn 13 [3,4,5,6,9,10,13,18,351] rfl<|bG (t:=351) (v':= .bool (decide (fg m.blocks (aK s).n≠0))) rfl (congrArg Value.bool (decide_eq_true (by unfold fg;rw[if_pos q1];decide)).symm) ?_
   exact eK K ⟨rfl,rfl,rfl,rfl,rfl,rfl,rfl,rfl,rfl,trivial⟩
  have q1:=of_decide_eq_false q1
  refine rn 1 [3,4,5,6,9,10,13,18,338,339] rfl<|af (ai fc ed rfl rfl (by rfl)) rfl rfl ?_
  refine af (aS b9 rfl rfl) rfl rfl<|rn 3 [3,4,5,6,9,10,13,18,344] rfl<|bK (t:=344) rfl (fun q2=>?_) (fun q2=>?_)
  ·have q2:m.blocks.length=8:=by have:=of_decide_eq_true q2;omega
   refine rn 7 [3,4,5,6,9,10,13,18,351] rfl<|bG (t:=351) (v':= .bool (decide (fg m.blocks (aK s).n≠0))) rfl (congrArg Value.bool (decide_eq_true (by unfold fg;rw[if_neg q1,if_pos (.inl q2)];decide)).symm) ?_
   exact eK K ⟨rfl,rfl,rfl,rfl,rfl,rfl,rfl,rfl,rfl,trivial⟩
  have q2:¬m.blocks.length=8:=by have:=of_decide_eq_false q2;omega
  refine rn 1 [3,4,5,6,9,10,13,18,344,345] rfl<|af (ai fc ed rfl rfl (by rfl)) rfl rfl ?_
  refine ag (br rfl rfl rfl Tryz.call81 (fun w hw=>(pC (.slice Ab m.blocks.length cb) m.blocks w (SF.at_ (SF.own rfl fc) hw) hbl).mono fun e w' h=>by obtain⟨h1,rfl⟩:=h;exact⟨h1,Below.refl _ _⟩)) rfl rfl (fun _ _=>?_)
  refine rn 1 [3,4,5,6,9,10,13,18,344,347,348] rfl<|af (bR rfl rfl rfl (by omega)) rfl rfl<|rn 2 [3,4,5,6,9,10,13,18,351] rfl<|bG (t:=351) (v':= .bool (decide (fg m.blocks (aK s).n≠0))) rfl (congrArg Value.bool (decide_eq_decide.2 (by unfold fg;rw[if_neg q1];split <;> omega))) ?_
  exact eK K ⟨rfl,rfl,rfl,rfl,rfl,rfl,rfl,rfl,rfl,trivial⟩
 refine ae<|ay rfl (fun q3=>?_) (fun q3=>?_)
 ·have q3:fg m.blocks (aK s).n≠0:=q3
  refine ac<|aa<|af (aL (vs:= [_,_,_,_,_,_]) fc aR aA rfl rfl (by rfl) rfl) rfl rfl ?_
  refine ag (cI rfl rfl rfl l5 (fun w hw=>fy a m 3 (by decide) w (R.hm.ro hw) R.fit)) rfl rfl (fun g _=>?_)
  refine ag (aG _ fc aA rfl rfl rfl rfl rfl (by rfl) rfl (by rfl)) rfl rfl (fun _ _=>?_)
  refine ae<|av (aj ?_)
  refine dN (KT {m with status:=3,trap:=3} g ⟨3,by dsimp only[bJ];rw[if_neg (by omega)];rw[if_neg (by omega)];rw[if_neg (by omega)];rw[if_neg (by omega)];rw[if_neg (by omega)];rw[if_neg (by omega)];rw[if_neg (by omega)];rw[if_neg (by omega)];rw[if_neg (by omega)];rw[if_neg (by omega)];rw[if_neg (by omega)];rw[if_neg (by omega)];rw[if_neg (by omega)];rw[if_neg (by omega)];dsimp only[eC];rw[if_pos hc,if_pos q3],rfl⟩) ⟨rfl,trivial⟩ me
 have q3:fg m.blocks (aK s).n=0:=Classical.byContradiction q3
 obtain⟨g0,g1⟩:=vr q3
 obtain⟨z,hz⟩:∃z:Nat,(aK s).n=z:=⟨(aK s).n.toNat,by omega⟩
 have hzt:(aK s).n.toNat=z:=by omega
 refine az (au ?_)
 refine ac<|bN (.still 0 (.still 1 (.still 2 (.pick 3 (.pick 4 (.pick 5 (.calm 6 (.pick 7 .done .stop)) .stop) .stop) .stop)))) [5,6,7] rfl (by kernel_rfl) (by kernel_rfl) ?_
 refine aW ha 1 [4,5,6,9,10,13,18,354] rfl<|an rfl (ai fc ed rfl rfl (by rfl)) rfl rfl ha ?_
 refine aW ha 1 [4,5,6,9,10,13,355,356] rfl<|cG (t:=356) (v':= .int .i64 (z:Int)) rfl (by rw[hz]) ?_
 refine aC rfl (j4 (α:=Int) (m:=z) 0 ah jI rfl (fun w=>⟨⟨rfl,by simp[aX]⟩,fun _ h=>h⟩) rfl (by omega) rfl rfl rfl) rfl rfl (.inr fun _=>ha) (fun gz _=>?_) ax
 refine aC rfl (bh (cs:= [_]) b9 bW Tryz.zeroValue27 rfl rfl rfl rfl rfl) rfl rfl (.inr fun _=>ha) (fun g1 _=>?_) ax
 refine aC rfl (dv (α:=List Int) (bytes:=24) (List.replicate z 0) [ak (.slice (some ⟨gz,0,none⟩) z z) (List.replicate z (0:Int))] rfl b9 (bO kg) rfl (CM (R:=ak (.slice Ab m.blocks.length cb) m.blocks) fc fc fc) BO (by omega) (by omega) rfl rfl rfl) rfl rfl (.inl rfl) (fun⟨A4,c4⟩ _=>?_) ax
 try dsimp only
 refine dF 1 [4,5,6,9,10,13,359,360] rfl<|aC rfl (aG _ fc iq rfl rfl rfl rfl rfl (by rfl) rfl (by rfl)) rfl rfl (.inl rfl) (fun _ _=>?_) ax
 refine cA<|aa<|af (ai fc a5 rfl rfl (by rfl)) rfl rfl ?_
 refine af (ai fc aq rfl rfl (by rfl)) rfl rfl ?_
 refine af (bt rfl rfl rfl (by omega)) rfl rfl<|rn 1 [4,5,6,9,13,361,363,364] rfl<|af (ai fc ed rfl rfl (by rfl)) rfl rfl ?_
 refine af (aS b9 rfl rfl) rfl rfl<|af (cq (cs:= [_,_]) ko bq rfl rfl (by rfl)) rfl rfl ?_
 refine bG (t:=363) (v':= .int .i64 ((s.length - 1:Nat):Int)) rfl (by congr 1;omega) ?_
 refine af (aQ (k:=(s.length - 1)) aw aD (SF.own (xs:=s) rfl fc) (by omega) rfl rfl rfl) rfl rfl ?_
 refine ag (eE (α:=aM) (A:=As) (c:=cs) ⟨true,((m.blocks++ [List.replicate z 0]).length:Int)⟩ default (xs':=dl s++ [⟨true,((m.blocks++ [List.replicate z 0]).length:Int)⟩]) (kU h1 _).symm fc (by omega) (show aX ((m.blocks++ [List.replicate z 0]).length:Int) by rw[List.length_append];unfold aX;simp only[List.length_singleton];omega) aD rfl rfl rfl rfl rfl rfl rfl rfl) rfl rfl (fun _ _=>?_)
 refine bB<|dN (K (dl s++ [⟨true,((m.blocks++ [List.replicate z 0]).length:Int)⟩]) As cs l (m.blocks++ [List.replicate z 0]) A4 c4 m.inn Ai ci m.out Ao co m.status p1 ⟨R.pi.2.2,R.hms⟩ (by dsimp only[bJ];rw[if_neg (by omega)];rw[if_neg (by omega)];rw[if_neg (by omega)];rw[if_neg (by omega)];rw[if_neg (by omega)];rw[if_neg (by omega)];rw[if_neg (by omega)];rw[if_neg (by omega)];rw[if_neg (by omega)];rw[if_neg (by omega)];rw[if_neg (by omega)];rw[if_neg (by omega)];rw[if_neg (by omega)];rw[if_neg (by omega)];dsimp only[eC];rw[if_pos hc,if_neg (fun h=>h q3),hzt,List.length_append];rfl)) ⟨rfl,rfl,rfl,rfl,rfl,trivial⟩ (fun w h=>by rw[e1];exact h.msub ms)
end
end
section
theorem xL {s L:List aM} {a i:Nat} (h1:a+i<s.length) (h2:i<L.length):(s.drop a).take (i+1)++L.drop (i+1)=((s.drop a).take i++L.drop i).set i (s.getD (a+i) default):=by
 have hl:((s.drop a).take i).length=i:=by rw[List.length_take,List.length_drop];omega
 have e1:(s.drop a).take (i+1)=(s.drop a).take i++ [s.getD (a+i) default]:=by
  rw[fb (s.drop a) i default (by rw[List.length_drop];omega),kO]
 rw[e1,List.set_append_right _ _ (by omega),hl,Nat.sub_self]
 cases h:L.drop i with
 | nil=>have:=congrArg List.length h;rw[List.length_drop] at this;simp at this;omega
 | cons x r=>
  have e2:L.drop (i+1)=r:=by rw[←List.drop_drop,h];rfl
  rw[e2,List.append_assoc]
  rfl
theorem yz {α:Type} [Ow α] {B:Nat} {w0:World} {H:List bj} {A:Option Addr} {c:Nat} {s:List α} {w:World} (h1:1≤s.length) (h:Cw B w0 (ak (.slice A s.length c) s::H) w):Cw B w0 (ak (.slice (gA A 1 c (aN.k α)) (s.drop 1).length (c - 1)) (s.drop 1)::H) w:=by
 rw[List.length_drop]
 exact uO h1 h
section
variable {B:Nat} {w0:World} {Q:Exit→Act→World→Prop} (gp gm gr go gc gf gs gn k:Nat) (li:List (aJ×aT)) (A Al As Ap Ab Ai Ao:Option Addr) (c cl cs cp cb ci co:Nat) (a:MA) (m:aO) (f p0 p1 fr:Int) (l s:List aM) (o:bT) (fs:List aE) (rz:List Value) (fx0 fx1 fx3:Value)
set_option maxRecDepth 100000 in
set_option maxHeartbeats 1000000 in
theorem Cz (R:iU B w0 fs m a li k Ap cp f p0 p1 l s o fr) (hrz:rz.length=6) (K:∀(As':Option Addr) (cs':Nat) (Ai':Option Addr) (ci':Nat),m.inn≠[]→XW ⟨551,[]⟩ B w0 Q .normal [(4,.pointer (some ⟨gr,0,none⟩)),(5,.pointer (some ⟨go,0,none⟩)),(6,.pointer (some ⟨ab A,ao A+k*4,none⟩)),(9,.pointer (some ⟨gs,0,none⟩)),(13,.int .i64 p1)] (am gs [.slice As' (s++ [cy (m.inn.getD 0 0)]).length cs'] 95::ak (.slice As' (s++ [cy (m.inn.getD 0 0)]).length cs') (s++ [cy (m.inn.getD 0 0)])::am gr rz 29::am go [.slice A (k+1) c,.slice Ab m.blocks.length cb,.slice Ai' (m.inn.drop 1).length ci',.slice Ao m.out.length co,.int .i64 0,.int .i64 m.trap] 29::ak (.slice A (k+1) c) (li.map Prod.fst++ [(⟨f,p0,.slice Al l.length cl,.slice As s.length cs⟩:aJ)])::ak (.slice Al l.length cl) l::cT li::ak (.slice Ab m.blocks.length cb) m.blocks::ak (.slice Ai' (m.inn.drop 1).length ci') (m.inn.drop 1)::ak (.slice Ao m.out.length co) m.out:: [])) (KR:∀g:MA,m.inn= []→XW ⟨551,[]⟩ B w0 Q .ret [(4,.pointer (some ⟨gr,0,none⟩))] (am gr [.slice g.Af m.frames.length g.cf,.slice g.Ab m.blocks.length g.cb,.slice g.Ai m.inn.length g.ci,.slice g.Ao m.out.length g.co,.int .i64 1,.int .i64 m.trap] 29::ak (.slice g.Af m.frames.length g.cf) m.frames::ak (.slice g.Ab m.blocks.length g.cb) m.blocks::ak (.slice g.Ai m.inn.length g.ci) m.inn::ak (.slice g.Ao m.out.length g.co) m.out:: [])):CW Tryz.prog ⟨551,[]⟩ B w0 (il [true,true,true,true,true,true,true,true,true,true,true,false,true,false,true,true,true,true,true,true,true,true,true,true,true,true,true,true,true,true,true,true,true,true,true,true,true,true,true,true,true,true,true,true,true,true,true,true,true,true,true,true,true,true,true,false] (eH Tryz.f25)) Q [(4,.pointer (some ⟨gr,0,none⟩)),(5,.pointer (some ⟨go,0,none⟩)),(6,.pointer (some ⟨ab A,ao A+k*4,none⟩)),(9,.pointer (some ⟨gs,0,none⟩)),(11,.func (.func 77) #[] #[]),(13,.int .i64 p1)] [am gs [.slice As s.length cs] 95,ak (.slice As s.length cs) s,am gp [.slice Ap fs.length cp] 24,am gm [.slice a.Af m.frames.length a.cf,.slice a.Ab m.blocks.length a.cb,.slice a.Ai m.inn.length a.ci,.slice a.Ao m.out.length a.co,.int .i64 m.status,.int .i64 m.trap] 29,am gr rz 29,am go [.slice A (k+1) c,.slice Ab m.blocks.length cb,.slice Ai m.inn.length ci,.slice Ao m.out.length co,.int .i64 m.status,.int .i64 m.trap] 29,am gc [.int .i64 o.c,.int .i64 o.a] 49,am gf [fx0,fx1,.int .i64 fr,fx3] 110,am gn [.int .i64 (s.length:Int)] 3,ak (.slice A (k+1) c) (li.map Prod.fst++ [(⟨f,p0,.slice Al l.length cl,.slice As s.length cs⟩:aJ)]),ak (.slice Al l.length cl) l,cT li,ak (.slice Ab m.blocks.length cb) m.blocks,ak (.slice Ai m.inn.length ci) m.inn,ak (.slice Ao m.out.length co) m.out]:=by
 have hsl:=R.sl
 have hib:=R.ib
 obtain⟨z0,z1,z2,z3,z4,z5,rfl⟩:∃z0 z1 z2 z3 z4 z5,rz= [z0,z1,z2,z3,z4,z5]:=kl rz hrz
 refine dz (fun w h=>eL h (xs:=m.inn) (A:=Ai) (m:=m.inn.length) (c:=ci) fc) fun hcap=>?_
 refine ac<|aa<|rn 1 [4,5,6,9,11,13,522] rfl<|ag (aG _ fc aH rfl rfl rfl rfl rfl (by rfl) rfl (by rfl)) rfl rfl (fun _ _=>?_)
 refine ae<|ac<|ac<|aa<|rn 1 [4,5,6,9,11,13,523] rfl<|af (ai fc a7 rfl rfl (by rfl)) rfl rfl ?_
 refine af (aS ah rfl rfl) rfl rfl<|rn 1 [4,5,6,9,11,13,526] rfl<|ae<|ay rfl (fun h0=>?_) (fun h0=>?_)
 ·have h0:m.inn= []:=List.eq_nil_of_length_eq_zero (by have h0:(m.inn.length:Int)=0:=h0;omega)
  refine ac<|aa<|af (aL (vs:= [_,_,_,_,_,_]) fc aR aA rfl rfl (by rfl) rfl) rfl rfl ?_
  refine ag (aG _ fc aA rfl rfl rfl rfl rfl (by rfl) rfl (by rfl)) rfl rfl (fun _ _=>?_)
  refine ae<|av (aj ?_)
  refine dN (KR ⟨A,c,Ab,cb,Ai,ci,Ao,co⟩ h0) ⟨rfl,trivial⟩ (fun w h=>by dsimp only;rw[R.mf,R.fs];exact(ju (li:=li) (h:=⟨f,p0,.slice Al l.length cl,.slice As s.length cs⟩) (x:=⟨f,p0,l,s⟩) R.hok ⟨rfl,rfl⟩ (h.msub (T:=ak (.slice A (k+1) c) (li.map Prod.fst++ [(⟨f,p0,.slice Al l.length cl,.slice As s.length cs⟩:aJ)])::ak (.slice Al l.length cl) l::ak (.slice As s.length cs) s::cT li::am gr [.slice A (k+1) c,.slice Ab m.blocks.length cb,.slice Ai m.inn.length ci,.slice Ao m.out.length co,.int .i64 1,.int .i64 m.trap] 29::ak (.slice Ab m.blocks.length cb) m.blocks::ak (.slice Ai m.inn.length ci) m.inn::ak (.slice Ao m.out.length co) m.out:: []) ms)).msub ms)
 have h0:¬m.inn.length=0:=by have h0:¬(m.inn.length:Int)=0:=h0;omega
 have hz:aX (m.inn.getD 0 0):=R.ii _ (cL (by omega))
 have hd1:(m.inn.drop 1).length=m.inn.length - 1:=List.length_drop
 refine az (au ?_)
 refine ac<|aa<|rn 1 [4,5,6,9,11,13,528] rfl<|ag (aG _ fc aH rfl rfl rfl rfl rfl (by rfl) rfl (by rfl)) rfl rfl (fun _ _=>?_)
 refine ae<|ac<|bN (.still 0 (.still 1 (.still 2 (.still 3 (.still 4 (.still 5 (.pick 6 (.pick 7 (.pick 8 (.pick 9 .done .stop) .stop) .stop) .stop))))))) [8,9] rfl (by kernel_rfl) (by kernel_rfl) ?_
 refine an rfl (ai fc a5 rfl rfl (by rfl)) rfl rfl ha ?_
 refine aW ha 2 [4,5,6,9,13,529,530,531] rfl<|an rfl (ai fc a7 rfl rfl (by rfl)) rfl rfl ha ?_
 refine an rfl (aQ (k:=0) ah aH (SF.own (xs:=m.inn) rfl fc) (by omega) rfl rfl rfl) rfl rfl ha ?_
 refine an rfl (a9 (SF.int (SF.own (xs:=m.inn) rfl fc) (by omega)) rfl rfl aq) rfl rfl ha ?_
 refine aC rfl (gN rfl rfl rfl kH (fun w hw=>gU (m.inn.getD 0 0) hz w)) rfl rfl (.inr fun _=>ha) (fun _ _=>?_) ax
 refine aC rfl (bh (cs:= [_,_]) aw aD bq rfl rfl rfl rfl rfl) rfl rfl (.inr fun _=>ha) (fun g1 _=>?_) ax
 refine aC rfl (dv (α:=aM) (bytes:=16) (cy (m.inn.getD 0 0)) [] rfl aw (bO cZ) rfl (eu (R:=ak (.slice As s.length cs) s) fc fc) (dB (hJ _)) (by omega) (by omega) rfl rfl rfl) rfl rfl (.inl rfl) (fun⟨A3,c3⟩ _=>?_) ax
 try dsimp only
 refine aC rfl (aG _ fc cS rfl rfl rfl rfl rfl (by rfl) rfl (by rfl)) rfl rfl (.inl rfl) (fun _ _=>?_) ax
 refine cA<|aa<|rn 1 [4,5,6,9,13,538] rfl<|af (ai fc a7 rfl rfl (by rfl)) rfl rfl ?_
 refine af (qS (k:=(m.inn.drop 1).length) ah aH ⟨by omega,by omega⟩ hd1.symm rfl rfl rfl rfl) rfl rfl ?_
 refine rn 1 [4,5,6,9,13,540,541] rfl<|ag (aG _ fc bW rfl rfl rfl rfl rfl (by rfl) rfl (by rfl)) rfl rfl (fun _ _=>?_)
 refine bB<|dN (K A3 c3 (gA Ai 1 ci 1) (ci - 1) (fun e=>h0 (by rw[e];rfl))) ⟨rfl,rfl,rfl,rfl,rfl,trivial⟩ (fun w h=>(yz (s:=m.inn) (A:=Ai) (c:=ci) (by omega) (h.msub (.s fc .r))).msub ms)
set_option maxRecDepth 100000 in
set_option maxHeartbeats 2000000 in
theorem CI (R:iU B w0 fs m a li k Ap cp f p0 p1 l s o fr) (hc:o.c=12) (hrz:rz.length=6) (KT:∀(y:aO) (g:MA),(∃why,bJ fs m (li.map Prod.snd) ⟨f,p1,l,s⟩ o= .inl why∧y= {m with status:=3,trap:=why})→XW ⟨551,[]⟩ B w0 Q .ret [(4,.pointer (some ⟨gr,0,none⟩))] (am gr [.slice g.Af y.frames.length g.cf,.slice g.Ab y.blocks.length g.cb,.slice g.Ai y.inn.length g.ci,.slice g.Ao y.out.length g.co,.int .i64 y.status,.int .i64 y.trap] 29::ak (.slice g.Af y.frames.length g.cf) y.frames::ak (.slice g.Ab y.blocks.length g.cb) y.blocks::ak (.slice g.Ai y.inn.length g.ci) y.inn::ak (.slice g.Ao y.out.length g.co) y.out:: [])) (KR:∀(y:aO) (g:MA),bJ fs m (li.map Prod.snd) ⟨f,p1,l,s⟩ o= .inr y→XW ⟨551,[]⟩ B w0 Q .ret [(4,.pointer (some ⟨gr,0,none⟩))] (am gr [.slice g.Af y.frames.length g.cf,.slice g.Ab y.blocks.length g.cb,.slice g.Ai y.inn.length g.ci,.slice g.Ao y.out.length g.co,.int .i64 y.status,.int .i64 y.trap] 29::ak (.slice g.Af y.frames.length g.cf) y.frames::ak (.slice g.Ab y.blocks.length g.cb) y.blocks::ak (.slice g.Ai y.inn.length g.ci) y.inn::ak (.slice g.Ao y.out.length g.co) y.out:: [])):CW Tryz.prog ⟨551,[]⟩ B w0 (il [true,true,true,true,true,true,true,true,true,true,true,false,true,false,true,true,true,true,true,true,true,true,true,true,true,true,true,true,true,true,true,true,true,true,true,true,true,false] (eH Tryz.f25)) Q [(2,.pointer (some ⟨gp,0,none⟩)),(3,.pointer (some ⟨gm,0,none⟩)),(4,.pointer (some ⟨gr,0,none⟩)),(5,.pointer (some ⟨go,0,none⟩)),(6,.pointer (some ⟨ab A,ao A+k*4,none⟩)),(7,.pointer (some ⟨gc,0,none⟩)),(9,.pointer (some ⟨gs,0,none⟩)),(10,.pointer (some ⟨gn,0,none⟩)),(13,.int .i64 p1)] [am gs [.slice As s.length cs] 95,ak (.slice As s.length cs) s,am gp [.slice Ap fs.length cp] 24,am gm [.slice a.Af m.frames.length a.cf,.slice a.Ab m.blocks.length a.cb,.slice a.Ai m.inn.length a.ci,.slice a.Ao m.out.length a.co,.int .i64 m.status,.int .i64 m.trap] 29,am gr rz 29,am go [.slice A (k+1) c,.slice Ab m.blocks.length cb,.slice Ai m.inn.length ci,.slice Ao m.out.length co,.int .i64 m.status,.int .i64 m.trap] 29,am gc [.int .i64 o.c,.int .i64 o.a] 49,am gf [fx0,fx1,.int .i64 fr,fx3] 110,am gn [.int .i64 (s.length:Int)] 3,ak (.slice A (k+1) c) (li.map Prod.fst++ [(⟨f,p0,.slice Al l.length cl,.slice As s.length cs⟩:aJ)]),ak (.slice Al l.length cl) l,cT li,ak (.slice Ab m.blocks.length cb) m.blocks,ak (.slice Ai m.inn.length ci) m.inn,ak (.slice Ao m.out.length co) m.out]:=by
 have hsl:=R.sl
 have hk6:=R.k6
 obtain⟨hcf,⟨hc0,hc1⟩,hc2,hc3⟩:=R.nd.call hc
 obtain⟨z0,z1,z2,z3,z4,z5,rfl⟩:∃z0 z1 z2 z3 z4 z5,rz= [z0,z1,z2,z3,z4,z5]:=kl rz hrz
 have hlm:(li.map Prod.fst).length=k:=by rw[List.length_map];exact R.hk
 have hlm2:(li.map Prod.snd).length=k:=by rw[List.length_map];exact R.hk
 have hmf:=R.mf
 refine dz (fun w h=>eL h (xs:=s) (.s .a)) fun hcap=>?_
 refine ac<|ac<|aa<|rn 1 [2,3,4,5,6,7,9,10,13,232] rfl<|af (ai fc bL rfl rfl (by rfl)) rfl rfl ?_
 refine af (aS aV rfl rfl) rfl rfl<|rn 1 [2,3,4,5,6,7,9,10,13,235] rfl<|ae<|ay rfl (fun h0=>?_) (fun h0=>?_)
 ·have h0:k=5:=by have h0:(m.frames.length:Int)=6:=h0;omega
  refine ac<|aa<|af (aL (vs:= [_,_,_,_,_,_]) fc aR aA rfl rfl (by rfl) rfl) rfl rfl ?_
  refine ag (cI rfl rfl rfl l5 (fun w hw=>fy a m 4 (by decide) w (R.hm.ro hw) R.fit)) rfl rfl (fun g _=>?_)
  refine ag (aG _ fc aA rfl rfl rfl rfl rfl (by rfl) rfl (by rfl)) rfl rfl (fun _ _=>?_)
  refine ae<|av (aj ?_)
  refine dN (KT {m with status:=3,trap:=4} g ⟨4,by dsimp only[bJ];rw[if_neg (by omega),if_neg (by omega),if_neg (by omega),if_neg (by omega),if_neg (by omega),if_neg (by omega),if_neg (by omega),if_neg (by omega),if_neg (by omega),if_neg (by omega),if_neg (by omega),if_pos hc,if_pos (by omega)],rfl⟩) ⟨rfl,trivial⟩ me
 have h0:¬k=5:=by have h0:¬(m.frames.length:Int)=6:=h0;omega
 obtain⟨q,hq⟩:∃q:Nat,o.a.toNat=q:=⟨_,rfl⟩
 rw[hq] at hc0 hc1 hc2 hc3
 have hc2:(ar fs q).params≤s.length:=hc2
 have hqf:q<fs.length:=by omega
 obtain⟨A1,c1,A2,c2,hl1,hl2,hi,hcell⟩:=R.hp.fn hqf
 have hF:(cE (ar fs q).locals).length=(ar fs q).locals.length:=gF _
 obtain⟨P,hP⟩:∃P:Nat,(ar fs q).params=P:=⟨(ar fs q).params.toNat,by omega⟩
 have bp:=bV R.hp
 refine az (au ?_)
 refine ac<|aa<|rn 1 [4,5,6,7,9,10,13,238] rfl<|af (ai fc cF rfl rfl (by rfl)) rfl rfl ?_
 refine rn 1 [4,5,6,7,9,10,13,239,240] rfl<|af (ai fc aq rfl rfl (by rfl)) rfl rfl ?_
 refine bG (t:=241) (v':= .int .i64 (q:Int)) rfl (by congr 1;omega) ?_
 refine af (aQ (k:=q) bw bg (.ro R.hp) (by omega) rfl rfl rfl) rfl rfl<|af (cu (hcell _) rfl rfl dJ bg) rfl rfl<|ag (aZ dL rfl rfl) rfl rfl (fun g1 _=>?_)
 refine ag (aG _ fc bg rfl rfl rfl rfl rfl (by rfl) rfl (by rfl)) rfl rfl (fun _ _=>?_)
 refine ae<|ac<|aa<|af (aL (vs:= [_,_,_,_]) fc dJ bg rfl rfl (by rfl) rfl) rfl rfl ?_
 refine ag (ej rfl rfl rfl Tryz.call74 (fun w hw=>pA (ar fs q).params (ar fs q).result A1 A2 c1 c2 _ (ar fs q).locals w (hw.ro hl1) (by omega))) rfl rfl (fun⟨A3,c3⟩ _=>?_)
 try dsimp only
 refine rn 1 [4,5,6,7,9,10,13,14,15] rfl<|ae<|ac<|ac<|aa<|rn 1 [4,5,6,7,9,10,13,14,15,16] rfl<|ae<|aP (cn (fun g:Nat=>g≤P) (fun g=>P - g) (fun g=> [(4,.pointer (some ⟨gr,0,none⟩)),(5,.pointer (some ⟨go,0,none⟩)),(6,.pointer (some ⟨ab A,ao A+k*4,none⟩)),(7,.pointer (some ⟨gc,0,none⟩)),(9,.pointer (some ⟨gs,0,none⟩)),(10,.pointer (some ⟨gn,0,none⟩)),(13,.int .i64 p1),(14,.pointer (some ⟨g1,0,none⟩)),(15,.slice A3 (cE (ar fs q).locals).length c3),(16,.int .i64 (g:Int))]) (fun g=> [ak (.slice A3 (cE (ar fs q).locals).length c3) (((s.drop (s.length - P)).take g++(cE (ar fs q).locals).drop g)),am g1 [.int .i64 (ar fs q).params,.slice A1 (ar fs q).locals.length c1,.int .i64 (ar fs q).result,.slice A2 (ar fs q).code.length c2] 110,am gs [.slice As s.length cs] 95,ak (.slice As s.length cs) s,am gp [.slice Ap fs.length cp] 24,am gm [.slice a.Af m.frames.length a.cf,.slice a.Ab m.blocks.length a.cb,.slice a.Ai m.inn.length a.ci,.slice a.Ao m.out.length a.co,.int .i64 m.status,.int .i64 m.trap] 29,am gr [z0,z1,z2,z3,z4,z5] 29,am go [.slice A (k+1) c,.slice Ab m.blocks.length cb,.slice Ai m.inn.length ci,.slice Ao m.out.length co,.int .i64 m.status,.int .i64 m.trap] 29,am gc [.int .i64 o.c,.int .i64 o.a] 49,am gf [fx0,fx1,.int .i64 fr,fx3] 110,am gn [.int .i64 (s.length:Int)] 3,ak (.slice A (k+1) c) (li.map Prod.fst++ [(⟨f,p0,.slice Al l.length cl,.slice As s.length cs⟩:aJ)]),ak (.slice Al l.length cl) l,cT li,ak (.slice Ab m.blocks.length cb) m.blocks,ak (.slice Ai m.inn.length ci) m.inn,ak (.slice Ao m.out.length co) m.out]) 0 (Nat.zero_le _) ⟨rfl,rfl,rfl,rfl,rfl,rfl,rfl,rfl,rfl,rfl,trivial⟩ me ?_)
 rintro i hi'
 have hi:i≤P:=hi'
 have hll:((s.drop (s.length - P)).take i++(cE (ar fs q).locals).drop i).length=(cE (ar fs q).locals).length:=by rw[List.length_append,List.length_take,List.length_drop,List.length_drop];omega
 refine ac<|ac<|aa<|rn 2 [4,5,6,7,9,10,13,14,15,16,246,247] rfl<|af (ai fc aq rfl rfl (by rfl)) rfl rfl ?_
 refine rn 1 [4,5,6,7,9,10,13,14,15,16,249] rfl<|ae<|ay rfl (fun hlt=>?_) (fun hlt=>?_)
 ·have hlt:i<P:=by have hlt:(i:Int)<(ar fs q).params:=hlt;omega
  have hvi:aX (s.getD (s.length - P+i) default).n:=R.si _ (cL (by omega))
  have hst:=xL (s:=s) (L:=cE (ar fs q).locals) (a:=s.length - P) (i:=i) (by omega) (by omega)
  refine az (au ?_)
  refine ac<|aP<|aa<|rn 2 [4,5,6,7,9,10,13,14,15,16,252,253] rfl<|af (ai fc a5 rfl rfl (by rfl)) rfl rfl ?_
  refine af (ai fc aq rfl rfl (by rfl)) rfl rfl ?_
  refine rn 1 [4,5,6,7,9,10,13,14,15,16,252,253,254,255,256] rfl<|af (ai fc aq rfl rfl (by rfl)) rfl rfl ?_
  refine af (bt rfl rfl rfl (by omega)) rfl rfl<|rn 1 [4,5,6,7,9,10,13,14,15,16,252,253,254,258,259] rfl<|af (bR rfl rfl rfl (by omega)) rfl rfl<|bG (t:=260) (v':= .int .i64 ((s.length - P+i:Nat):Int)) rfl (by congr 1;omega) ?_
  refine af (aQ (k:=(s.length - P+i)) aw aD (SF.own (xs:=s) rfl fc) (by omega) rfl rfl rfl) rfl rfl ?_
  refine af (cu (SF.val (SF.own rfl fc) (show s.length - P+i<s.length by omega) default) rfl rfl db aD) rfl rfl ?_
  refine af (aQ (k:=i) aw aD (SF.own (A:=A3) (c:=c3) hll fc) (by omega) rfl rfl rfl) rfl rfl ?_
  refine ag (eE (α:=aM) (A:=A3) (c:=c3) (s.getD (s.length - P+i) default) default hst fc (by omega) hvi aD rfl rfl rfl rfl rfl rfl rfl rfl) rfl rfl (fun _ _=>?_)
  refine bB (aI (au ?_))
  refine aa<|rn 1 [4,5,6,7,9,10,13,14,15,250] rfl<|af (bR rfl rfl rfl (by omega)) rfl rfl<|rn 1 [4,5,6,7,9,10,13,14,15,16] rfl<|bD (i+1) (by show i+1≤_;omega) (by show _ - _<_ - _;omega) ⟨rfl,rfl,rfl,rfl,rfl,rfl,rfl,rfl,rfl,rfl,trivial⟩ me
 obtain rfl:i=P:=by have hlt:¬(i:Int)<(ar fs q).params:=hlt;omega
 have htl:(s.take (s.length - i)).length=s.length - i:=by rw[List.length_take];omega
 refine bY (aU (aU (cz (au ?_))))
 refine ac<|aa<|rn 2 [4,5,7,9,10,13,14,15,264,265] rfl<|af (ai fc a5 rfl rfl (by rfl)) rfl rfl ?_
 refine af (ai fc aq rfl rfl (by rfl)) rfl rfl ?_
 refine rn 1 [4,5,7,13,15,264,265,266,267,268] rfl<|af (ai fc aq rfl rfl (by rfl)) rfl rfl ?_
 refine af (bt rfl rfl rfl (by omega)) rfl rfl<|bG (t:=270) (v':= .int .i64 ((s.take (s.length - i)).length:Int)) rfl (by congr 1;omega) ?_
 refine af (ff (k:=(s.take (s.length - i)).length) aw aD (by omega) rfl rfl rfl) rfl rfl<|rn 3 [4,5,7,15,265,271,272,274] rfl<|ag (iy (α:=aJ) ⟨f,p0,.slice Al l.length cl,.slice As s.length cs⟩ ⟨f,p0,.slice Al l.length cl,.slice As (s.take (s.length - i)).length cs⟩ hlm fc ⟨⟨R.pi.1,R.pi.2.1⟩,rfl,rfl⟩ cS rfl rfl rfl rfl rfl rfl rfl rfl) rfl rfl (fun _ _=>?_)
 refine rn 2 [4,5,7,15,272,276] rfl<|ag (iy (α:=aJ) ⟨f,p0,.slice Al l.length cl,.slice As (s.take (s.length - i)).length cs⟩ ⟨f,p1,.slice Al l.length cl,.slice As (s.take (s.length - i)).length cs⟩ hlm fc ⟨⟨R.pi.1,R.pi.2.2⟩,rfl,rfl⟩ aH rfl rfl rfl rfl rfl rfl rfl rfl) rfl rfl (fun _ _=>?_)
 refine ae<|ac<|aa<|rn 1 [4,5,7,15,277] rfl<|af (ai fc bL rfl rfl (by rfl)) rfl rfl ?_
 refine rn 1 [4,5,15,278,279] rfl<|af (ai fc aq rfl rfl (by rfl)) rfl rfl ?_
 refine rn 1 [4,5,278,280,281] rfl<|af (cq (cs:= [_,_,_,_]) pE cK rfl rfl (by rfl)) rfl rfl ?_
 refine ag (bh (cs:= [_,_,_,_]) aV bn cK rfl rfl rfl rfl rfl) rfl rfl (fun g2 _=>?_)
 refine ag (dv (α:=aJ) (bytes:=64) ⟨o.a,0,.slice A3 (cE (ar fs q).locals).length c3,.slice none 0 0⟩ [] rfl aV (bO jJ) rfl (eu (R:=ak (.slice A (k+1) c) _) fc fc) (dB ⟨⟨R.oa,by show aX 0;decide⟩,rfl,rfl⟩) (by rw[List.length_append,hlm];show k+1+1≤_;omega) (by rw[List.length_append,hlm];show (k+1+1)*64≤_;omega) rfl rfl rfl) rfl rfl (fun⟨A5,c5⟩ _=>?_)
 try dsimp only
 refine rn 1 [4,5,284,285] rfl<|ag (aG _ fc fe rfl rfl rfl rfl rfl (by rfl) rfl (by rfl)) rfl rfl (fun _ _=>?_)
 refine ae<|ac<|aa<|af (aL (vs:= [_,_,_,_,_,_]) fc aR aA rfl rfl (by rfl) rfl) rfl rfl ?_
 refine ag (aG _ fc aA rfl rfl rfl rfl rfl (by rfl) rfl (by rfl)) rfl rfl (fun _ _=>?_)
 refine ae ?_
 have e2:∀a b:aJ,(li.map Prod.fst++ [a]++ [b]).length=k+2:=fun a b=>by rw[List.length_append,List.length_append,hlm];rfl
 have e3:(s.drop (s.length - i)).take i=s.drop (s.length - i):=List.take_of_length_le (by rw[List.length_drop];omega)
 refine av<|dN (KR {m with frames:=li.map Prod.snd++ [⟨f,p1,l,s.take (s.length - i)⟩,⟨o.a,0,(s.drop (s.length - i)).take i++(cE (ar fs q).locals).drop i,[]⟩]} ⟨A5,c5,Ab,cb,Ai,ci,Ao,co⟩ (by dsimp only[bJ];rw[if_neg (by omega)];rw[if_neg (by omega)];rw[if_neg (by omega)];rw[if_neg (by omega)];rw[if_neg (by omega)];rw[if_neg (by omega)];rw[if_neg (by omega)];rw[if_neg (by omega)];rw[if_neg (by omega)];rw[if_neg (by omega)];rw[if_neg (by omega)];rw[if_pos hc,if_neg (by omega),hq,hP,Int.toNat_natCast,e3])) ⟨rfl,trivial⟩ (fun w h=>by rw[e2] at h;have h1:=qy (List.take_prefix (s.length - i) s) (h.msub (.s fc .r));have h2:=Cw.nilO aM h1;exact(uL (gd:=gr) (A:=A5) (c:=c5) (k:=k) (li:=li) (h:=⟨f,p1,.slice Al l.length cl,.slice As (s.take (s.length - i)).length cs⟩) (x:=⟨f,p1,l,s.take (s.length - i)⟩) (h2:=⟨o.a,0,.slice A3 (cE (ar fs q).locals).length c3,.slice none 0 0⟩) (x2:=⟨o.a,0,(s.drop (s.length - i)).take i++(cE (ar fs q).locals).drop i,[]⟩) (b:= [.slice Ab m.blocks.length cb,.slice Ai m.inn.length ci,.slice Ao m.out.length co,.int .i64 m.status,.int .i64 m.trap]) (T:=29) (H:= [ak (.slice Ab m.blocks.length cb) m.blocks,ak (.slice Ai m.inn.length ci) m.inn,ak (.slice Ao m.out.length co) m.out]) R.hk R.hok ⟨rfl,rfl⟩ ⟨rfl,rfl⟩ (h2.msub ms)).msub ms)
set_option maxRecDepth 100000 in
set_option maxHeartbeats 2000000 in
theorem CH (R:iU B w0 fs m a li k Ap cp f p0 p1 l s o fr) (hc:o.c=13) (hrz:rz.length=6) (KR:∀(y:aO) (g:MA),bJ fs m (li.map Prod.snd) ⟨f,p1,l,s⟩ o= .inr y→XW ⟨551,[]⟩ B w0 Q .ret [(4,.pointer (some ⟨gr,0,none⟩))] (am gr [.slice g.Af y.frames.length g.cf,.slice g.Ab y.blocks.length g.cb,.slice g.Ai y.inn.length g.ci,.slice g.Ao y.out.length g.co,.int .i64 y.status,.int .i64 y.trap] 29::ak (.slice g.Af y.frames.length g.cf) y.frames::ak (.slice g.Ab y.blocks.length g.cb) y.blocks::ak (.slice g.Ai y.inn.length g.ci) y.inn::ak (.slice g.Ao y.out.length g.co) y.out:: [])):CW Tryz.prog ⟨551,[]⟩ B w0 (il [true,true,true,true,true,true,true,true,true,true,true,false,true,false,true,true,true,true,true,true,true,true,true,true,true,true,true,true,true,true,true,true,true,true,true,true,true,true,true,false] (eH Tryz.f25)) Q [(4,.pointer (some ⟨gr,0,none⟩)),(5,.pointer (some ⟨go,0,none⟩)),(8,.pointer (some ⟨gf,0,none⟩)),(9,.pointer (some ⟨gs,0,none⟩)),(10,.pointer (some ⟨gn,0,none⟩))] [am gs [.slice As s.length cs] 95,ak (.slice As s.length cs) s,am gp [.slice Ap fs.length cp] 24,am gm [.slice a.Af m.frames.length a.cf,.slice a.Ab m.blocks.length a.cb,.slice a.Ai m.inn.length a.ci,.slice a.Ao m.out.length a.co,.int .i64 m.status,.int .i64 m.trap] 29,am gr rz 29,am go [.slice A (k+1) c,.slice Ab m.blocks.length cb,.slice Ai m.inn.length ci,.slice Ao m.out.length co,.int .i64 m.status,.int .i64 m.trap] 29,am gc [.int .i64 o.c,.int .i64 o.a] 49,am gf [fx0,fx1,.int .i64 fr,fx3] 110,am gn [.int .i64 (s.length:Int)] 3,ak (.slice A (k+1) c) (li.map Prod.fst++ [(⟨f,p0,.slice Al l.length cl,.slice As s.length cs⟩:aJ)]),ak (.slice Al l.length cl) l,cT li,ak (.slice Ab m.blocks.length cb) m.blocks,ak (.slice Ai m.inn.length ci) m.inn,ak (.slice Ao m.out.length co) m.out]:=by
 have hsl:=R.sl
 have hk6:=R.k6
 obtain⟨hf0,hf1,hfr,hfr0⟩:=R.fn
 obtain⟨_,hret⟩:=R.nd.ret hc
 have hret:(ar fs f.toNat).result≠0→1≤s.length:=hret
 obtain⟨z0,z1,z2,z3,z4,z5,rfl⟩:∃z0 z1 z2 z3 z4 z5,rz= [z0,z1,z2,z3,z4,z5]:=kl rz hrz
 have hlm:(li.map Prod.fst).length=k:=by rw[List.length_map];exact R.hk
 have hmf:=R.mf
 have hok:=R.hok
 have hkl:=R.hk
 have hst:=R.hst
 have hlk:∀h:aJ,(li.map Prod.fst++ [h]).length=k+1:=fun h=>by rw[List.length_append,hlm];rfl
 refine dz (fun w h=>eL h (xs:=li.map Prod.fst++ [(⟨f,p0,.slice Al l.length cl,.slice As s.length cs⟩:aJ)]) fc) fun hcapf=>?_
 refine ac<|aa<|rn 1 [4,5,8,9,10,289] rfl<|af (ai fc bL rfl rfl (by rfl)) rfl rfl ?_
 refine rn 1 [4,5,8,9,10,290,291] rfl<|af (ai fc bL rfl rfl (by rfl)) rfl rfl ?_
 refine af (aS aV rfl rfl) rfl rfl<|af (bt rfl rfl rfl (by omega)) rfl rfl<|bG (t:=294) (v':= .int .i64 (k:Int)) rfl (by congr 1;omega) ?_
 refine af (ff (k:=k) aV bn (by omega) rfl rfl rfl) rfl rfl<|rn 1 [4,5,8,9,10,295,296] rfl<|ag (aG _ fc fe rfl rfl rfl rfl rfl (by rfl) rfl (by rfl)) rfl rfl (fun _ _=>?_)
 refine ae<|ac<|ac<|aa<|rn 1 [4,5,8,9,10,297] rfl<|af (ai fc bL rfl rfl (by rfl)) rfl rfl ?_
 refine af (aS aV rfl rfl) rfl rfl<|rn 1 [4,5,8,9,10,300] rfl<|ae<|dP (fun w h=>oP hlm (h.msub (.s fc .r))) ?_
 refine ay rfl (fun h0=>?_) (fun h0=>?_)
 ·have h0:k=0:=by have h0:(k:Int)=0:=h0;omega
  subst h0
  have hnil:li= []:=List.eq_nil_of_length_eq_zero hkl
  subst hnil
  refine ac<|aa<|rn 1 [4,5,301] rfl<|ag (aG _ fc aH rfl rfl rfl rfl rfl (by rfl) rfl (by rfl)) rfl rfl (fun _ _=>?_)
  refine ae<|ac<|aa<|af (aL (vs:= [_,_,_,_,_,_]) fc aR aA rfl rfl (by rfl) rfl) rfl rfl ?_
  refine ag (aG _ fc aA rfl rfl rfl rfl rfl (by rfl) rfl (by rfl)) rfl rfl (fun _ _=>?_)
  refine ae<|av (aj ?_)
  refine dN (KR {m with frames:= [],status:=2} ⟨A,c,Ab,cb,Ai,ci,Ao,co⟩ (by dsimp only[bJ];rw[if_neg (by omega)];rw[if_neg (by omega)];rw[if_neg (by omega)];rw[if_neg (by omega)];rw[if_neg (by omega)];rw[if_neg (by omega)];rw[if_neg (by omega)];rw[if_neg (by omega)];rw[if_neg (by omega)];rw[if_neg (by omega)];rw[if_neg (by omega)];rw[if_neg (by omega)];rw[if_pos hc];unfold lM;rw[if_pos (show List.map Prod.snd ([]:List (aJ×aT))= [] from rfl)])) ⟨rfl,trivial⟩ (fun w h=>(qb (v:= .slice A 0 c) (l:=([]:List (aJ×aT))) hok (h.msub (T:=ak (.slice A 0 c) (([]:List (aJ×aT)).map Prod.fst)::cT []:: [am gr [.slice A 0 c,.slice Ab m.blocks.length cb,.slice Ai m.inn.length ci,.slice Ao m.out.length co,.int .i64 2,.int .i64 m.trap] 29,ak (.slice Ab m.blocks.length cb) m.blocks,ak (.slice Ai m.inn.length ci) m.inn,ak (.slice Ao m.out.length co) m.out]) ms)).msub ms)
 have h0:¬k=0:=by have h0:¬(k:Int)=0:=h0;omega
 obtain⟨k',rfl⟩:∃k',k=k'+1:=⟨k - 1,by omega⟩
 obtain⟨lp,q,rfl⟩:∃l q,li=l++ [q]:=by
  rcases List.eq_nil_or_concat li with h1 | ⟨l,z,h1⟩
  ·rw[h1] at hkl;simp at hkl
  exact⟨l,z,by rw[h1];simp⟩
 obtain⟨h,y⟩:=q
 have hkp:lp.length=k':=by rw[List.length_append,List.length_singleton] at hkl;omega
 have hok2:=hok.left
 have hok3:h.func=y.func∧h.pc=y.pc:=hok (h,y) (by simp)
 obtain⟨hf',hpc,hlv,hsv⟩:=h
 have hys:y.stack.length≤1000:=hst (_,y) (List.mem_append_right _ (List.mem_singleton.2 rfl))
 have hlmp:(lp.map Prod.fst).length=k':=by rw[List.length_map];exact hkp
 refine dP (fun w hw=>o3 (hw.msub (.s fc .r))) ?_
 refine dz (fun w hw=>hw.oform (v:=hsv) (xs:=y.stack) .b) ?_
 rintro⟨As',cs',rfl⟩
 simp only[List.map_append,List.map_cons,List.map_nil] at *
 refine dz (fun w hw=>(mq hw fc:aJ.wf ⟨hf',hpc,hlv,.slice As' y.stack.length cs'⟩)) fun hwf=>?_
 have hlkp:∀h:aJ,(lp.map Prod.fst++ [h]).length=k'+1:=fun h=>by rw[List.length_append,hlmp];rfl
 have e3:∀z:aT,(lp.map Prod.snd++ [z]).length=k'+1:=fun z=>by rw[List.length_append,List.length_map,hkp];rfl
 have e4:lp.map Prod.snd++ [y]≠[]:=by simp
 refine az (au ?_)
 refine ac<|ac<|aa<|rn 1 [4,5,9,10,303] rfl<|af (ai fc aq rfl rfl (by rfl)) rfl rfl ?_
 refine rn 1 [4,5,9,10,305] rfl<|ae<|ay rfl (fun hr=>?_) (fun hr=>?_)
 ·have hr:0<fr:=hr
  have hr2:¬(ar fs f.toNat).result=0:=by omega
  have h1:1≤s.length:=hret hr2
  have hv:s.getD (s.length - 1) default=aK s:=dG.symm
  have hvi:aX (aK s).n:=by rw[dG];exact R.si _ (cL (by omega))
  refine ac<|aa<|rn 1 [4,5,9,10,306] rfl<|af (ai fc bL rfl rfl (by rfl)) rfl rfl ?_
  refine rn 1 [4,5,9,10,307,308] rfl<|af (ai fc bL rfl rfl (by rfl)) rfl rfl ?_
  refine af (aS aV rfl rfl) rfl rfl<|af (bt rfl rfl rfl (by omega)) rfl rfl<|bG (t:=311) (v':= .int .i64 (k':Int)) rfl (by congr 1;omega) ?_
  refine af (aQ (k:=k') aV bn (SF.own (hlkp ⟨hf',hpc,hlv,.slice As' y.stack.length cs'⟩) fc) (by omega) rfl rfl rfl) rfl rfl ?_
  refine rn 1 [4,5,9,10,17] rfl<|ae<|fm (.still 0 (.still 1 (.still 2 (.still 3 (.still 4 (.still 5 (.still 6 (.still 7 (.still 8 (.still 9 (.pick 10 (.pick 11 (.still 12 (.still 13 (.pick 14 .done .stop))) .stop) .stop))))))))))) [14] rfl (by kernel_rfl) (by kernel_rfl) [ak (.slice A (k'+1) c) (lp.map Prod.fst++ [(⟨hf',hpc,hlv,.slice As' y.stack.length cs'⟩:aJ)]),am gs [.slice As s.length cs] 95,am gn [.int .i64 (s.length:Int)] 3,ak (.slice As s.length cs) s] ?_
  refine aW ha 4 [4,5,9,10,313,316] rfl<|an rfl (a9 (d8 (j:=3) hlmp fc rfl) rfl rfl a5) rfl rfl ha ?_
  refine an rfl (ai fc a5 rfl rfl (by rfl)) rfl rfl ha ?_
  refine an rfl (ai fc aq rfl rfl (by rfl)) rfl rfl ha ?_
  refine an rfl (bt rfl rfl rfl (by omega)) rfl rfl ha ?_
  refine cG (t:=320) (v':= .int .i64 ((s.length - 1:Nat):Int)) rfl (by congr 1;omega) ?_
  refine an rfl (aQ (k:=(s.length - 1)) aw aD (SF.own (xs:=s) (A:=As) (c:=cs) rfl fc) (by omega) rfl rfl rfl) rfl rfl ha ?_
  refine an rfl (cu (SF.val (SF.own rfl fc) (show s.length - 1<s.length by omega) default) rfl rfl db aD) rfl rfl ha ?_
  refine aC rfl (bh (cs:= [_,_]) aw aD bq rfl rfl rfl rfl rfl) rfl rfl (.inr fun _=>ha) (fun g1 _=>?_) ax
  rw[hv]
  refine aC rfl (dv (α:=aM) (bytes:=16) (aK s) [] rfl aw (bO cZ) rfl (eu (R:=ak (.slice As' y.stack.length cs') y.stack) fc fc) (dB hvi) (by omega) (by omega) rfl rfl rfl) rfl rfl (.inr fun _=>ha) (fun⟨A3,c3⟩ _=>?_) ax
  try dsimp only
  refine aW ha 2 [4,5,324,326] rfl<|aC rfl (iy (α:=aJ) ⟨hf',hpc,hlv,.slice As' y.stack.length cs'⟩ ⟨hf',hpc,hlv,.slice A3 (y.stack++ [aK s]).length c3⟩ hlmp fc ⟨hwf.1,hwf.2.1,rfl⟩ cS rfl rfl rfl rfl rfl rfl rfl rfl) rfl rfl (.inl rfl) (fun _ _=>?_) ax
  refine cA<|ac<|aa<|af (aL (vs:= [_,_,_,_,_,_]) fc aR aA rfl rfl (by rfl) rfl) rfl rfl ?_
  refine ag (aG _ fc aA rfl rfl rfl rfl rfl (by rfl) rfl (by rfl)) rfl rfl (fun _ _=>?_)
  refine ae<|av<|dN (KR {m with frames:=lp.map Prod.snd++ [{y with stack:=y.stack++ [aK s]}]} ⟨A,c,Ab,cb,Ai,ci,Ao,co⟩ (by dsimp only[bJ];rw[if_neg (by omega)];rw[if_neg (by omega)];rw[if_neg (by omega)];rw[if_neg (by omega)];rw[if_neg (by omega)];rw[if_neg (by omega)];rw[if_neg (by omega)];rw[if_neg (by omega)];rw[if_neg (by omega)];rw[if_neg (by omega)];rw[if_neg (by omega)];rw[if_neg (by omega)];rw[if_pos hc,pg,nt,if_neg hr2,if_neg e4])) ⟨rfl,trivial⟩ (fun w h=>by dsimp only;rw[e3];exact(ju (li:=lp) (h:=⟨hf',hpc,hlv,.slice A3 (y.stack++ [aK s]).length c3⟩) (x:= {y with stack:=y.stack++ [aK s]}) hok2 hok3 (h.msub (T:=ak (.slice A (k'+1) c) (lp.map Prod.fst++ [(⟨hf',hpc,hlv,.slice A3 (y.stack++ [aK s]).length c3⟩:aJ)])::ak hlv y.locals::ak (.slice A3 (y.stack++ [aK s]).length c3) (y.stack++ [aK s])::cT lp:: [am gr [.slice A (k'+1) c,.slice Ab m.blocks.length cb,.slice Ai m.inn.length ci,.slice Ao m.out.length co,.int .i64 m.status,.int .i64 m.trap] 29,ak (.slice Ab m.blocks.length cb) m.blocks,ak (.slice Ai m.inn.length ci) m.inn,ak (.slice Ao m.out.length co) m.out]) ms)).msub ms)
 have hr:¬0<fr:=hr
 have hr2:(ar fs f.toNat).result=0:=by omega
 refine az (au ?_)
 refine ac<|aa<|af (aL (vs:= [_,_,_,_,_,_]) fc aR aA rfl rfl (by rfl) rfl) rfl rfl ?_
 refine ag (aG _ fc aA rfl rfl rfl rfl rfl (by rfl) rfl (by rfl)) rfl rfl (fun _ _=>?_)
 refine ae<|av<|dN (KR {m with frames:=lp.map Prod.snd++ [y]} ⟨A,c,Ab,cb,Ai,ci,Ao,co⟩ (by dsimp only[bJ];rw[if_neg (by omega)];rw[if_neg (by omega)];rw[if_neg (by omega)];rw[if_neg (by omega)];rw[if_neg (by omega)];rw[if_neg (by omega)];rw[if_neg (by omega)];rw[if_neg (by omega)];rw[if_neg (by omega)];rw[if_neg (by omega)];rw[if_neg (by omega)];rw[if_neg (by omega)];rw[if_pos hc,pg,nt,if_pos hr2,if_neg e4,List.append_nil])) ⟨rfl,trivial⟩ (fun w h=>by dsimp only;rw[e3];exact(ju (li:=lp) (h:=⟨hf',hpc,hlv,.slice As' y.stack.length cs'⟩) (x:=y) hok2 hok3 (h.msub (T:=ak (.slice A (k'+1) c) (lp.map Prod.fst++ [(⟨hf',hpc,hlv,.slice As' y.stack.length cs'⟩:aJ)])::ak hlv y.locals::ak (.slice As' y.stack.length cs') y.stack::cT lp:: [am gr [.slice A (k'+1) c,.slice Ab m.blocks.length cb,.slice Ai m.inn.length ci,.slice Ao m.out.length co,.int .i64 m.status,.int .i64 m.trap] 29,ak (.slice Ab m.blocks.length cb) m.blocks,ak (.slice Ai m.inn.length ci) m.inn,ak (.slice Ao m.out.length co) m.out]) ms)).msub ms)
end
end
section
def vn (l:List Int):List UInt8:=dx l.length::l.flatMap ef
def Bm (v:aM):List UInt8:=dx (if v.ref=true then 1 else 0)::ef v.n
def uf (l:List aM):List UInt8:=dx l.length::l.flatMap Bm
def BR (x:aT):List UInt8:=dx x.func::dx x.pc::(uf x.locals++uf x.stack)
def DN (m:aO):List UInt8:=
 dx m.status::dx m.trap::(vn m.inn++(vn m.out++(dx m.blocks.length::(m.blocks.flatMap vn++(dx m.frames.length::m.frames.flatMap BR)))))
abbrev kE (α:Type):=List UInt8→Option (α×List UInt8)
def qA:kE Int
 | []=>none
 | b::l=>some ((b.toNat:Int),l)
def zy:kE Int:=fun s=>if s.length<4 then none else some (fK (s.take 4),s.drop 4)
def j9 {α:Type} (p:kE α):Nat→kE (List α)
 | 0,s=>some ([],s)
 | k+1,s=>match p s with
  | none=>none
  | some (x,r)=>match j9 p k r with
   | none=>none
   | some (l,t)=>some (x::l,t)
def rF {α:Type} (p:kE α):kE (List α):=fun s=>match qA s with
 | none=>none
 | some (n,r)=>j9 p n.toNat r
def vo:kE (List Int):=rF zy
def Bn:kE aM:=fun s=>match qA s with
 | none=>none
 | some (n,r)=>if 1<n then none else match zy r with
  | none=>none
  | some (z,t)=>some (⟨decide (n=1),z⟩,t)
def ug:kE (List aM):=rF Bn
def BS:kE aT:=fun s=>match qA s with
 | none=>none
 | some (f,s1)=>match qA s1 with
  | none=>none
  | some (p,s2)=>match ug s2 with
   | none=>none
   | some (l,s3)=>match ug s3 with
    | none=>none
    | some (t,s4)=>some (⟨f,p,l,t⟩,s4)
def CR:kE aO:=fun s=>match qA s with
 | none=>none
 | some (st,s1)=>match qA s1 with
  | none=>none
  | some (tr,s2)=>match vo s2 with
   | none=>none
   | some (i,s3)=>match vo s3 with
    | none=>none
    | some (o,s4)=>match rF vo s4 with
     | none=>none
     | some (b,s5)=>match rF BS s5 with
      | none=>none
      | some (f,s6)=>some (⟨f,b,i,o,st,tr⟩,s6)
def DW (s:List UInt8):Option aO:=match CR s with
 | none=>none
 | some (m,r)=>if r= [] then some m else none
def zB {α:Type} (p:kE α) (x:α) (b:List UInt8):Prop:= ∀r,p (b++r)=some (x,r)
theorem yI {α:Type} {p:kE α} {f:α→List UInt8} :∀(l:List α),(∀x∈l,zB p x (f x))→zB (j9 p l.length) l (l.flatMap f)
 | [],_=>fun r=>rfl
 | x::l,h=>fun r=>by
  rw[List.length_cons,j9,List.flatMap_cons,List.append_assoc,h x (by simp),]
  simp only
  rw[yI l (fun y hy=>h y (by simp[hy]))]
structure Dd (x:aT):Prop where
 f:0≤x.func∧x.func≤255
 p:0≤x.pc∧x.pc≤255
 l:x.locals.length≤255∧∀v∈x.locals,cH v.n=true
 s:x.stack.length≤255∧∀v∈x.stack,cH v.n=true
structure MI (m:aO):Prop where
 s:0≤m.status∧m.status≤255
 t:0≤m.trap∧m.trap≤255
 i:m.inn.length≤255∧∀n∈m.inn,cH n=true
 o:m.out.length≤255∧∀n∈m.out,cH n=true
 b:m.blocks.length≤255∧∀l∈m.blocks,l.length≤255∧∀n∈l,cH n=true
 f:m.frames.length≤255∧∀x∈m.frames,Dd x
def zA {α:Type} (p:kE α) (f:α→List UInt8):Prop:= ∀s x r,p s=some (x,r)→s=f x++r
theorem DF:∀(s:List UInt8),¬s.length<4→∃a b c d l,s=a::b::c::d::l
 | [],h=>absurd (by simp) h
 | [_],h=>absurd (by simp) h
 | [_,_],h=>absurd (by simp) h
 | [_,_,_],h=>absurd (by simp) h
 | a::b::c::d::l,_=>⟨a,b,c,d,l,rfl⟩
theorem vt {α:Type} {p:kE α} {f:α→List UInt8} (h:zA p f):∀k,zA (j9 p k) (fun l=>l.flatMap f)
 | 0=>fun s x r e=>by
  obtain⟨rfl,rfl⟩: []=x∧s=r:=by simpa [j9] using e
  rfl
 | k+1=>fun s x r e=>by
  unfold j9 at e
  split at e
  ·cases e
  rename_i y t e1
  split at e
  ·cases e
  rename_i l u e2
  obtain⟨rfl,rfl⟩:y::l=x∧u=r:=by simpa using e
  rw[h _ _ _ e1,vt h k _ _ _ e2]
  show _=(y::l).flatMap f++u
  rw[List.flatMap_cons,List.append_assoc]
theorem w7 {α:Type} {p:kE α} :∀k s x r,j9 p k s=some (x,r)→x.length=k
 | 0,s,x,r,e=>by
  obtain⟨rfl,rfl⟩: []=x∧s=r:=by simpa [j9] using e
  rfl
 | k+1,s,x,r,e=>by
  unfold j9 at e
  split at e
  ·cases e
  rename_i y t e1
  split at e
  ·cases e
  rename_i l u e2
  obtain⟨rfl,rfl⟩:y::l=x∧u=r:=by simpa using e
  rw[List.length_cons,w7 k _ _ _ e2]
theorem rL {nb:Nat} {v:aM} (hn:nb≤8) (h:ea nb v=true):cH v.n=true:=by
 unfold ea at h
 split at h
 ·have:=dC.1 h
  unfold cH
  simp only[Bool.and_eq_true,decide_eq_true_eq]
  omega
 exact h
theorem xY {fs:List aE} {l:List aT} {i:Nat} {t:List Int} (h:fQ fs l i=some t):∃t',eb fs (gk fs l i) (bd l i).pc=some t':=by
 unfold fQ at h
 split at h
 ·exact⟨t,h⟩
 split at h
 ·cases h
 split at h
 ·cases h
 cases h5:eb fs (gk fs l i) (bd l i).pc with
 | none=>rw[h5] at h;cases h
 | some t'=>exact⟨t',rfl⟩
theorem CX {fs:List aE} (hF:ew fs) {m:aO} (h:dr fs m) {i:Nat} (hi:i<m.frames.length):Dd (bd m.frames i):=by
 obtain⟨t,hw,hl,hs⟩:=h.fr i hi
 obtain⟨t',he⟩:=xY hw
 have hz:=h.fn _ (eZ hi)
 have hk:(bd m.frames i).func.toNat<fs.length:=by omega
 have h5:fs.length≤5:=by
  have:=hF.p
  unfold dp at this
  split at this
  ·cases this
  split at this
  ·cases this
  omega
 obtain⟨p0,p1,_⟩:=(hF.e _ hk).at_ _ _ he
 have h40:=(gi hF.p hk).1.n40
 have h6:=(gZ ((fT hF.p).2.2 _ (gI hk))).1
 have hb:=(fU h.bl).1
 have hsm:=(ss hF h hi).1
 have hll:=hl.len
 unfold gk at hll
 exact⟨by omega,by omega,⟨by omega,fun v hv=>rL hb (hl.val v hv)⟩,⟨by omega,fun v hv=>rL hb (hs.val v hv)⟩⟩
end
section
theorem Bq {B:Nat} {w0:World} {Ap:Option Addr} {cp:Nat} {fs:List aE} (hs:bS w0 B (.slice Ap fs.length cp) fs) {a:MA} {m:aO} (hm:d9 B w0 a m) (hF:ew fs) (hR:dr fs m) (hst:¬(m.status=2∨m.status=3)) {li0:List aT} {x:aT} (hfr:m.frames=li0++ [x]) {li:List (aJ×aT)} (hli:li.map Prod.snd=li0) (hok:fw li) {k:Nat} (hk:li0.length=k) :
  ∃kf:Nat,x.func=kf∧kf<fs.length∧(0≤x.pc∧x.pc≤1000)∧iU B w0 fs m a li k Ap cp x.func x.pc (x.pc+1) x.locals x.stack (be fs m) (ar fs kf).result:=by
 obtain⟨li1,x1,kf,hS⟩:=nk hs hF hR hst
 have e1:li1=li0∧x1=x:=by
  have h:=hS.fr.symm.trans hfr
  obtain⟨h1,h2⟩:=List.append_inj' h rfl
  exact⟨h1,by simpa using h2⟩
 obtain⟨rfl,rfl⟩:=e1
 have hlk:li.length=k:=by rw[←hk,←hli,List.length_map]
 have htop:fh m=x1:=by unfold fh;rw[hfr];simp
 have hop:be fs m=bx (ar fs kf).code x1.pc.toNat:=by unfold be;rw[htop,hS.fn];rfl
 obtain⟨_,_,_,_,_,_,⟨hi,hj⟩,_⟩:=hm.f.fr (k:=li1.length) (by rw[hfr];simp)
 have hfe:bd m.frames li1.length=x1:=by rw[hfr];exact iP
 rw[hfe] at hi hj
 have hI:=CX hF hR (i:=li1.length) (by rw[hfr];simp)
 rw[hfe] at hI
 have hcl:=hS.cl
 refine⟨kf,hS.fn,hS.hkf,by have:=hS.pc;omega,⟨hlk,hok,hs,hm,k0 hF hR,hop▸hS.nd,hS.bl,hS.sl,hS.ol,by have:=hS.n6;omega,fun q hq=>hS.st q.2 (by rw[←hli];exact List.mem_map_of_mem hq),hop▸hS.oa,⟨hi,hj,by have:=hS.pc;unfold aX;omega⟩,fun v hv=>mr (hI.s.2 v hv),fun v hv=>mr (hI.l.2 v hv),hm.s,⟨by rw[hS.fn];omega,by rw[hS.fn];exact_mod_cast hS.hkf,by rw[hS.fn];rfl,?_⟩,by rw[hfr,List.length_append,hk];rfl,?_,rfl,by rw[hli];exact hfr,by have:=hR.ib;omega,fun z hz=>mr (hR.ii z hz),fun v hv=>by have:=hI.s.2 v hv;unfold cH at this;simp only[Bool.and_eq_true,decide_eq_true_eq] at this;omega⟩⟩
 ·have:=(gZ ((fT hF.p).2.2 _ (gI hS.hkf))).2.2.1
  omega
 intro hc
 have ht:=hR.top hfr
 obtain⟨_,_,t,he,hty⟩:=ht
 have hkz:x1.func.toNat<fs.length:=by rw[hS.fn];simpa using hS.hkf
 obtain⟨T,V,e,hT,hTy,_⟩:=la hF hkz he hty
 have hop2:bx (ar fs x1.func.toNat).code x1.pc.toNat=be fs m:=by rw[hop,hS.fn];rfl
 rw[hop2] at e
 simp[tl,hc] at e
 obtain⟨rfl,rfl⟩:=e
 have h1:1≤x1.stack.length:=hT
 have h2:=dH.top hTy h1
 exact(xJ (h2.cell (k:=0) rfl rfl (by show 0<1;decide))).2
structure DS where
 s:List aM
 As:Option Addr
 cs:Nat
 l:List aM
 b:List (List Int)
 Ab:Option Addr
 cb:Nat
 i:List Int
 Ai:Option Addr
 ci:Nat
 o:List Int
 Ao:Option Addr
 co:Nat
 st:Int
 nx:Int
set_option maxRecDepth 100000 in
set_option maxHeartbeats 4000000 in
theorem ox (Ap:Option Addr) (cp:Nat) (fs:List aE) (a:MA) (m m2:aO) (hm2:dy fs m=m2) (w:World) (hs:Sl w (.slice Ap fs.length cp) fs) (hm:d9 w.heap.size w a m) (hF:ew fs) (hR:dr fs m) :
  Calls Tryz.prog 25 #[.agg #[.slice Ap fs.length cp],.agg #[.slice a.Af m.frames.length a.cf,.slice a.Ab m.blocks.length a.cb,.slice a.Ai m.inn.length a.ci,.slice a.Ao m.out.length a.co,.int .i64 m.status,.int .i64 m.trap]] w fun e w'=> ∃g:MA,True∧
   e= .returned (.agg #[.slice g.Af m2.frames.length g.cf,.slice g.Ab m2.blocks.length g.cb,.slice g.Ai m2.inn.length g.ci,.slice g.Ao m2.out.length g.co,.int .i64 m2.status,.int .i64 m2.trap])∧
   Cw w.heap.size w [ak (.slice g.Af m2.frames.length g.cf) m2.frames,ak (.slice g.Ab m2.blocks.length g.cb) m2.blocks,ak (.slice g.Ai m2.inn.length g.ci) m2.inn,ak (.slice g.Ao m2.out.length g.co) m2.out] w':=by
 have hfit:=k0 hF hR
 have hstt:=hR.st
 have bp:=bV hs
 refine enter Tryz.func25 rfl Tryz.ntmps25 rfl ?_
 refine ac<|aa<|ag (bH rfl rfl rfl) rfl rfl (fun g1 _=>?_)
 refine ag (bH rfl rfl rfl) rfl rfl (fun g2 _=>?_)
 refine ag (aZ a6 rfl rfl) rfl rfl (fun g3 _=>?_)
 refine ae<|ac<|ac<|aa<|rn 1 [2,3,4,27] rfl<|af (ai fc aq rfl rfl (by rfl)) rfl rfl ?_
 refine rn 1 [2,3,4,29] rfl<|ae<|ay rfl (fun h2=>?_) (fun h2=>?_)
 ·have h2:1<m.status:=h2
  obtain rfl:m=m2:=by rw[←hm2];unfold dy;rw[if_pos (by omega)]
  refine ac<|aa<|af (aL (vs:= [_,_,_,_,_,_]) fc aR aA rfl rfl (by rfl) rfl) rfl rfl ?_
  refine ag (cI rfl rfl rfl Cv (fun w hw=>kJ a m w (hm.ro hw) hfit)) rfl rfl (fun ga _=>?_)
  refine ag (aG _ fc aA rfl rfl rfl rfl rfl (by rfl) rfl (by rfl)) rfl rfl (fun _ _=>?_)
  refine ae<|av (aj ?_)
  refine aB fY (du (cs:= [_,_,_,_,_,_]) fc aR aA rfl) ?_
  intro w hw
  exact⟨ga,trivial,rfl,hw.msub ms⟩
 have h2:¬1<m.status:=h2
 have hst:¬(m.status=2∨m.status=3):=by omega
 have hne:m.frames≠[]:=fun e=>by have:=hR.dn.1 e;omega
 obtain⟨li0,x,hfr⟩:∃li x,m.frames=li++ [x]:=by
  rcases List.eq_nil_or_concat m.frames with h1 | ⟨l,z,h1⟩
  ·exact absurd h1 hne
  exact⟨l,z,by rw[h1];simp⟩
 obtain⟨k,hk⟩:∃k,li0.length=k:=⟨_,rfl⟩
 have hkm:m.frames.length=k+1:=by rw[hfr,List.length_append,hk];rfl
 have hkx:(li0++ [x]).length=k+1:=by rw[List.length_append,hk];rfl
 refine az (au ?_)
 refine ac<|aa<|af (aL (vs:= [_,_,_,_,_,_]) fc aR aA rfl rfl (by rfl) rfl) rfl rfl ?_
 refine ag (cI rfl rfl rfl Cv (fun w hw=>kJ a m w (hm.ro hw) hfit)) rfl rfl (fun⟨A,c,Ab,cb,Ai,ci,Ao,co⟩ _=>?_)
 try dsimp only
 refine ag (aZ a6 rfl rfl) rfl rfl (fun g4 _=>?_)
 refine ag (aG _ fc aA rfl rfl rfl rfl rfl (by rfl) rfl (by rfl)) rfl rfl (fun _ _=>?_)
 refine ae<|dP (H':= [ak (.slice A (li0++ [x]).length c) (li0++ [x]),ak (.slice Ab m.blocks.length cb) m.blocks,ak (.slice Ai m.inn.length ci) m.inn,ak (.slice Ao m.out.length co) m.out,am g4 [.slice A (k+1) c,.slice Ab m.blocks.length cb,.slice Ai m.inn.length ci,.slice Ao m.out.length co,.int .i64 m.status,.int .i64 m.trap] 29,am g3 [.slice none 0 0,.slice none 0 0,.slice none 0 0,.slice none 0 0,.int .i64 0,.int .i64 0] 29,am g2 [.slice a.Af m.frames.length a.cf,.slice a.Ab m.blocks.length a.cb,.slice a.Ai m.inn.length a.ci,.slice a.Ao m.out.length a.co,.int .i64 m.status,.int .i64 m.trap] 29,am g1 [.slice Ap fs.length cp] 24]) (fun w h=>by rw[←hkm,←hfr];exact h.msub ms) ?_
 refine uQ fc fun li Al As cl cs hli hok=>?_
 rw[hkx]
 obtain⟨kf,hfn,hkf,hpc,R⟩:=Bq hs hm hF hR hst hfr hli hok hk
 have hlm:(li.map Prod.fst).length=k:=by rw[List.length_map];exact R.hk
 obtain⟨A1,d1,A2,d2,hl1,hl2,hi,hcell⟩:=hs.fn hkf
 have hk6:=R.k6
 refine ac<|aa<|rn 1 [2,3,4,5,34] rfl<|af (ai fc bL rfl rfl (by rfl)) rfl rfl ?_
 refine rn 1 [2,3,4,5,35,36] rfl<|af (ai fc bL rfl rfl (by rfl)) rfl rfl ?_
 refine af (aS aV rfl rfl) rfl rfl<|af (bt rfl rfl rfl (by omega)) rfl rfl<|bG (t:=39) (v':= .int .i64 (k:Int)) rfl (by congr 1;omega) ?_
 refine af (aQ (k:=k) aV bn (SF.own (xs:=li.map Prod.fst++ [(⟨x.func,x.pc,.slice Al x.locals.length cl,.slice As x.stack.length cs⟩:aJ)]) (by rw[List.length_append,hlm];rfl) fc) (by omega) rfl rfl rfl) rfl rfl ?_
 refine rn 1 [2,3,4,5,6] rfl<|ae<|ac<|aa<|af (aL (vs:= [_]) fc bU bI rfl rfl (by rfl) rfl) rfl rfl ?_
 refine af (aL (vs:= [_,_,_,_,_,_]) fc aR aA rfl rfl (by rfl) rfl) rfl rfl ?_
 refine ag (br rfl rfl rfl Tryz.call76 (fun w hw=>sa Ap cp fs a m w (hw.ro hs) (hm.ro hw) hF hR hne)) rfl rfl (fun _ _=>?_)
 refine ag (aZ cr rfl rfl) rfl rfl (fun g5 _=>?_)
 refine ag (aG _ fc b8 rfl rfl rfl rfl rfl (by rfl) rfl (by rfl)) rfl rfl (fun _ _=>?_)
 refine ae<|ac<|bN (.still 0 (.still 1 (.still 2 (.still 3 (.still 4 (.still 5 (.still 6 (.still 7 (.pick 8 (.pick 9 .done .stop) .stop))))))))) [9] rfl (by kernel_rfl) (by kernel_rfl) ?_
 refine aW ha 1 [2,3,4,5,6,7,44] rfl<|an rfl (ai fc cF rfl rfl (by rfl)) rfl rfl ha ?_
 refine aW ha 3 [2,3,4,5,6,7,45,48] rfl<|an rfl (a9 (d8 (j:=0) hlm fc rfl) rfl rfl aq) rfl rfl ha ?_
 refine cG (t:=49) (v':= .int .i64 (kf:Int)) rfl (by rw[hfn]) ?_
 refine an rfl (aQ (k:=kf) bw bg (.ro hs) (by omega) rfl rfl rfl) rfl rfl ha ?_
 refine an rfl (cu (hcell _) rfl rfl dJ bg) rfl rfl ha ?_
 refine aC rfl (aZ dL rfl rfl) rfl rfl (.inr fun _=>ha) (fun g6 _=>?_) ax
 refine aC rfl (aG _ fc bg rfl rfl rfl rfl rfl (by rfl) rfl (by rfl)) rfl rfl (.inl rfl) (fun _ _=>?_) ax
 refine cA<|ac<|aa<|rn 3 [2,3,4,5,6,7,8,54] rfl<|af (a9 (d8 (j:=3) hlm fc rfl) rfl rfl a5) rfl rfl ?_
 refine ag (aZ Tryz.zeroValue95 rfl rfl) rfl rfl (fun g7 _=>?_)
 refine ag (aG _ fc cS rfl rfl rfl rfl rfl (by rfl) rfl (by rfl)) rfl rfl (fun _ _=>?_)
 refine ae<|ac<|aa<|af (ai fc a5 rfl rfl (by rfl)) rfl rfl ?_
 refine af (aS aw rfl rfl) rfl rfl<|ag (aZ a8 rfl rfl) rfl rfl (fun g8 _=>?_)
 refine ag (aG _ fc aH rfl rfl rfl rfl rfl (by rfl) rfl (by rfl)) rfl rfl (fun _ _=>?_)
 refine ae<|ac<|aa<|rn 1 [2,3,4,5,6,7,8,9,10,11] rfl<|ae<|ac<|aa<|rn 2 [2,3,4,5,6,7,8,9,10,11,12] rfl<|ae<|ac<|aa<|rn 3 [2,3,4,5,6,7,8,9,10,11,12,61] rfl<|af (a9 (d8 (j:=1) hlm fc rfl) rfl rfl aq) rfl rfl ?_
 refine bG (t:=62) (v':= .int .i64 x.pc) rfl (rfl) ?_
 refine af (bR rfl rfl rfl (by omega)) rfl rfl<|rn 1 [2,3,4,5,6,7,8,9,10,11,12,13] rfl<|ae<|ac<|ac<|aa<|rn 1 [2,3,4,5,6,7,8,9,10,11,12,13,64] rfl<|af (ai fc aq rfl rfl (by rfl)) rfl rfl ?_
 refine ae ?_
 have hT:(be fs m).c≠21→iw fs m=bJ fs m (li.map Prod.snd) ⟨x.func,x.pc+1,x.locals,x.stack⟩ (be fs m):=fun h=>by
  unfold iw
  have e1:fh m=x:=by unfold fh;rw[hfr];simp
  rw[if_neg h,e1,hfr,List.dropLast_concat,←hli]
 have hinl:(be fs m).c≠21→∀y:aO,(∃why,bJ fs m (li.map Prod.snd) ⟨x.func,x.pc+1,x.locals,x.stack⟩ (be fs m)= .inl why∧y= {m with status:=3,trap:=why})→m2=y:=fun h y ⟨why,h3,h4⟩=>by
  rw[←hm2,qM (by omega) (by omega) ((hT h).trans h3),h4]
 have hinr:(be fs m).c≠21→∀y:aO,bJ fs m (li.map Prod.snd) ⟨x.func,x.pc+1,x.locals,x.stack⟩ (be fs m)= .inr y→m2=y:=fun h y h3=>by
  rw[←hm2,lI (by omega) (by omega) ((hT h).trans h3)]
 have h21:(be fs m).c=21→m.inn≠[]→m2=⟨li.map Prod.snd++ [⟨x.func,x.pc+1,x.locals,x.stack++ [cy (m.inn.getD 0 0)]⟩],m.blocks,m.inn.drop 1,m.out,0,m.trap⟩:=fun h hi=>by
  have e1:fh m=x:=by unfold fh;rw[hfr];simp
  rw[←hm2]
  refine lI (by omega) (by omega) ?_
  unfold iw
  rw[if_pos h,if_neg hi,e1,hfr,List.dropLast_concat,←hli]
 have h21n:(be fs m).c=21→m.inn= []→m2= {m with status:=1} :=fun h hi=>by
  rw[←hm2]
  refine lI (by omega) (by omega) ?_
  unfold iw
  rw[if_pos h,if_pos hi]
 refine iQ (fun g:DS=>(aX g.nx∧aX g.st)∧m2=⟨li.map Prod.snd++ [⟨x.func,g.nx,g.l,g.s⟩],g.b,g.i,g.o,g.st,m.trap⟩) (fun g=> [(4,.pointer (some ⟨g3,0,none⟩)),(5,.pointer (some ⟨g4,0,none⟩)),(6,.pointer (some ⟨ab A,ao A+k*4,none⟩)),(9,.pointer (some ⟨g7,0,none⟩)),(13,.int .i64 g.nx)]) (fun g=> [am g7 [.slice g.As g.s.length g.cs] 95,ak (.slice g.As g.s.length g.cs) g.s,am g3 [.slice none 0 0,.slice none 0 0,.slice none 0 0,.slice none 0 0,.int .i64 0,.int .i64 0] 29,am g4 [.slice A (k+1) c,.slice g.Ab g.b.length g.cb,.slice g.Ai g.i.length g.ci,.slice g.Ao g.o.length g.co,.int .i64 g.st,.int .i64 m.trap] 29,ak (.slice A (k+1) c) (li.map Prod.fst++ [(⟨x.func,x.pc,.slice Al g.l.length cl,.slice As x.stack.length cs⟩:aJ)]),ak (.slice Al g.l.length cl) g.l,cT li,ak (.slice g.Ab g.b.length g.cb) g.b,ak (.slice g.Ai g.i.length g.ci) g.i,ak (.slice g.Ao g.o.length g.co) g.o]) ?_ ?_
 ·refine aP<|ac<|aa<|rn 2 [2,3,4,5,6,7,8,9,10,11,12,13,65,66] rfl<|ae<|ay rfl (fun c1=>?_) (fun c1=>?_)
  ·have c1:(be fs m).c=1:=c1
   refine ft (Du g1 g2 g3 g4 g5 g6 g7 g8 k li A Al As Ap Ab Ai Ao c cl cs cp cb ci co a m x.func x.pc (x.pc+1) (ar fs kf).result x.locals x.stack (be fs m) fs [.slice none 0 0,.slice none 0 0,.slice none 0 0,.slice none 0 0,.int .i64 0,.int .i64 0] (.int .i64 (ar fs kf).params) (.slice A1 (ar fs kf).locals.length d1) (.slice A2 (ar fs kf).code.length d2) R c1 (fun s' As' cs' l' b' Ab' cb' i' Ai' ci' o' Ao' co' st' nx hI hd=>?_)) ⟨rfl,rfl,rfl,rfl,rfl,rfl,rfl,trivial⟩ me
   refine(aI ?_)
   refine aY ⟨s',As',cs',l',b',Ab',cb',i',Ai',ci',o',Ao',co',st',nx⟩ (⟨hI,hinr (by omega) _ hd⟩) ⟨rfl,rfl,rfl,rfl,rfl,trivial⟩ me
  have c1:¬(be fs m).c=1:=c1
  refine ac<|aa<|rn 2 [2,3,4,5,6,7,8,9,10,11,12,13,65,75] rfl<|ae<|ay rfl (fun c2=>?_) (fun c2=>?_)
  ·have c2:(be fs m).c=2:=c2
   refine ft (Dt g1 g2 g3 g4 g5 g6 g7 g8 k li A Al As Ap Ab Ai Ao c cl cs cp cb ci co a m x.func x.pc (x.pc+1) (ar fs kf).result x.locals x.stack (be fs m) fs [.slice none 0 0,.slice none 0 0,.slice none 0 0,.slice none 0 0,.int .i64 0,.int .i64 0] (.int .i64 (ar fs kf).params) (.slice A1 (ar fs kf).locals.length d1) (.slice A2 (ar fs kf).code.length d2) R c2 (fun s' As' cs' l' b' Ab' cb' i' Ai' ci' o' Ao' co' st' nx hI hd=>?_)) ⟨rfl,rfl,rfl,rfl,rfl,rfl,trivial⟩ me
   refine(aI ?_)
   refine aY ⟨s',As',cs',l',b',Ab',cb',i',Ai',ci',o',Ao',co',st',nx⟩ (⟨hI,hinr (by omega) _ hd⟩) ⟨rfl,rfl,rfl,rfl,rfl,trivial⟩ me
  have c2:¬(be fs m).c=2:=c2
  refine ac<|aa<|rn 2 [2,3,4,5,6,7,8,9,10,11,12,13,65,81] rfl<|ae<|ay rfl (fun c3=>?_) (fun c3=>?_)
  ·have c3:(be fs m).c=3:=c3
   refine ft (Ds g1 g2 g3 g4 g5 g6 g7 g8 k li A Al As Ap Ab Ai Ao c cl cs cp cb ci co a m x.func x.pc (x.pc+1) (ar fs kf).result x.locals x.stack (be fs m) fs [.slice none 0 0,.slice none 0 0,.slice none 0 0,.slice none 0 0,.int .i64 0,.int .i64 0] (.int .i64 (ar fs kf).params) (.slice A1 (ar fs kf).locals.length d1) (.slice A2 (ar fs kf).code.length d2) R c3 (fun s' As' cs' l' b' Ab' cb' i' Ai' ci' o' Ao' co' st' nx hI hd=>?_)) ⟨rfl,rfl,rfl,rfl,rfl,rfl,trivial⟩ me
   refine(aI ?_)
   refine aY ⟨s',As',cs',l',b',Ab',cb',i',Ai',ci',o',Ao',co',st',nx⟩ (⟨hI,hinr (by omega) _ hd⟩) ⟨rfl,rfl,rfl,rfl,rfl,trivial⟩ me
  have c3:¬(be fs m).c=3:=c3
  refine ac<|aa<|rn 2 [2,3,4,5,6,7,8,9,10,11,12,13,65,91] rfl<|ae<|ay rfl (fun c4=>?_) (fun c4=>?_)
  ·have c4:(be fs m).c=4:=c4
   refine ft (Dr g1 g2 g3 g4 g5 g6 g7 g8 k li A Al As Ap Ab Ai Ao c cl cs cp cb ci co a m x.func x.pc (x.pc+1) (ar fs kf).result x.locals x.stack (be fs m) fs [.slice none 0 0,.slice none 0 0,.slice none 0 0,.slice none 0 0,.int .i64 0,.int .i64 0] (.int .i64 (ar fs kf).params) (.slice A1 (ar fs kf).locals.length d1) (.slice A2 (ar fs kf).code.length d2) R c4 (fun s' As' cs' l' b' Ab' cb' i' Ai' ci' o' Ao' co' st' nx hI hd=>?_)) ⟨rfl,rfl,rfl,rfl,rfl,rfl,trivial⟩ me
   refine(aI ?_)
   refine aY ⟨s',As',cs',l',b',Ab',cb',i',Ai',ci',o',Ao',co',st',nx⟩ (⟨hI,hinr (by omega) _ hd⟩) ⟨rfl,rfl,rfl,rfl,rfl,trivial⟩ me
  have c4:¬(be fs m).c=4:=c4
  refine ac<|aa<|rn 2 [2,3,4,5,6,7,8,9,10,11,12,13,65,111] rfl<|ae<|ay rfl (fun c5=>?_) (fun c5=>?_)
  ·have c5:(be fs m).c=5:=c5
   refine ft (Dq g1 g2 g3 g4 g5 g6 g7 g8 k li A Al As Ap Ab Ai Ao c cl cs cp cb ci co a m x.func x.pc (x.pc+1) (ar fs kf).result x.locals x.stack (be fs m) fs [.slice none 0 0,.slice none 0 0,.slice none 0 0,.slice none 0 0,.int .i64 0,.int .i64 0] (.int .i64 (ar fs kf).params) (.slice A1 (ar fs kf).locals.length d1) (.slice A2 (ar fs kf).code.length d2) R c5 (fun s' As' cs' l' b' Ab' cb' i' Ai' ci' o' Ao' co' st' nx hI hd=>?_)) ⟨rfl,rfl,rfl,rfl,rfl,rfl,rfl,trivial⟩ me
   refine(aI ?_)
   refine aY ⟨s',As',cs',l',b',Ab',cb',i',Ai',ci',o',Ao',co',st',nx⟩ (⟨hI,hinr (by omega) _ hd⟩) ⟨rfl,rfl,rfl,rfl,rfl,trivial⟩ me
  have c5:¬(be fs m).c=5:=c5
  refine ac<|aa<|rn 2 [2,3,4,5,6,7,8,9,10,11,12,13,65,134] rfl<|ae<|ay rfl (fun c6=>?_) (fun c6=>?_)
  ·have c6:(be fs m).c=6:=c6
   refine ft (Dp g1 g2 g3 g4 g5 g6 g7 g8 k li A Al As Ap Ab Ai Ao c cl cs cp cb ci co a m x.func x.pc (x.pc+1) (ar fs kf).result x.locals x.stack (be fs m) fs [.slice none 0 0,.slice none 0 0,.slice none 0 0,.slice none 0 0,.int .i64 0,.int .i64 0] (.int .i64 (ar fs kf).params) (.slice A1 (ar fs kf).locals.length d1) (.slice A2 (ar fs kf).code.length d2) R c6 (fun s' As' cs' l' b' Ab' cb' i' Ai' ci' o' Ao' co' st' nx hI hd=>?_)) ⟨rfl,rfl,rfl,rfl,rfl,rfl,rfl,trivial⟩ me
   refine(aI ?_)
   refine aY ⟨s',As',cs',l',b',Ab',cb',i',Ai',ci',o',Ao',co',st',nx⟩ (⟨hI,hinr (by omega) _ hd⟩) ⟨rfl,rfl,rfl,rfl,rfl,trivial⟩ me
  have c6:¬(be fs m).c=6:=c6
  refine ac<|aa<|rn 2 [2,3,4,5,6,7,8,9,10,11,12,13,65,157] rfl<|ae<|ay rfl (fun c7=>?_) (fun c7=>?_)
  ·have c7:(be fs m).c=7:=c7
   refine ft (Do g1 g2 g3 g4 g5 g6 g7 g8 k li A Al As Ap Ab Ai Ao c cl cs cp cb ci co a m x.func x.pc (x.pc+1) (ar fs kf).result x.locals x.stack (be fs m) fs [.slice none 0 0,.slice none 0 0,.slice none 0 0,.slice none 0 0,.int .i64 0,.int .i64 0] (.int .i64 (ar fs kf).params) (.slice A1 (ar fs kf).locals.length d1) (.slice A2 (ar fs kf).code.length d2) R c7 (fun s' As' cs' l' b' Ab' cb' i' Ai' ci' o' Ao' co' st' nx hI hd=>?_)) ⟨rfl,rfl,rfl,rfl,rfl,rfl,rfl,trivial⟩ me
   refine(aI ?_)
   refine aY ⟨s',As',cs',l',b',Ab',cb',i',Ai',ci',o',Ao',co',st',nx⟩ (⟨hI,hinr (by omega) _ hd⟩) ⟨rfl,rfl,rfl,rfl,rfl,trivial⟩ me
  have c7:¬(be fs m).c=7:=c7
  refine ac<|aa<|rn 2 [2,3,4,5,6,7,8,9,10,11,12,13,65,180] rfl<|ae<|ay rfl (fun c8=>?_) (fun c8=>?_)
  ·have c8:(be fs m).c=8:=c8
   refine ft (Dm g1 g2 g3 g4 g5 g6 g7 g8 k li A Al As Ap Ab Ai Ao c cl cs cp cb ci co a m x.func x.pc (x.pc+1) (ar fs kf).result x.locals x.stack (be fs m) fs [.slice none 0 0,.slice none 0 0,.slice none 0 0,.slice none 0 0,.int .i64 0,.int .i64 0] (.int .i64 (ar fs kf).params) (.slice A1 (ar fs kf).locals.length d1) (.slice A2 (ar fs kf).code.length d2) R c8 (fun s' As' cs' l' b' Ab' cb' i' Ai' ci' o' Ao' co' st' nx hI hd=>?_)) ⟨rfl,rfl,rfl,rfl,rfl,rfl,trivial⟩ me
   refine(aI ?_)
   refine aY ⟨s',As',cs',l',b',Ab',cb',i',Ai',ci',o',Ao',co',st',nx⟩ (⟨hI,hinr (by omega) _ hd⟩) ⟨rfl,rfl,rfl,rfl,rfl,trivial⟩ me
  have c8:¬(be fs m).c=8:=c8
  refine ac<|aa<|rn 2 [2,3,4,5,6,7,8,9,10,11,12,13,65,193] rfl<|ae<|ay rfl (fun c9=>?_) (fun c9=>?_)
  ·have c9:(be fs m).c=9:=c9
   refine ft (Dl g1 g2 g3 g4 g5 g6 g7 g8 k li A Al As Ap Ab Ai Ao c cl cs cp cb ci co a m x.func x.pc (x.pc+1) (ar fs kf).result x.locals x.stack (be fs m) fs [.slice none 0 0,.slice none 0 0,.slice none 0 0,.slice none 0 0,.int .i64 0,.int .i64 0] (.int .i64 (ar fs kf).params) (.slice A1 (ar fs kf).locals.length d1) (.slice A2 (ar fs kf).code.length d2) R c9 (fun s' As' cs' l' b' Ab' cb' i' Ai' ci' o' Ao' co' st' nx hI hd=>?_)) ⟨rfl,rfl,rfl,rfl,rfl,rfl,rfl,trivial⟩ me
   refine(aI ?_)
   refine aY ⟨s',As',cs',l',b',Ab',cb',i',Ai',ci',o',Ao',co',st',nx⟩ (⟨hI,hinr (by omega) _ hd⟩) ⟨rfl,rfl,rfl,rfl,rfl,trivial⟩ me
  have c9:¬(be fs m).c=9:=c9
  refine ac<|aa<|rn 2 [2,3,4,5,6,7,8,9,10,11,12,13,65,211] rfl<|ae<|ay rfl (fun c10=>?_) (fun c10=>?_)
  ·have c10:(be fs m).c=10:=c10
   refine ft (CK g1 g2 g3 g4 g5 g6 g7 g8 k li A Al As Ap Ab Ai Ao c cl cs cp cb ci co a m x.func x.pc (x.pc+1) (ar fs kf).result x.locals x.stack (be fs m) fs [.slice none 0 0,.slice none 0 0,.slice none 0 0,.slice none 0 0,.int .i64 0,.int .i64 0] (.int .i64 (ar fs kf).params) (.slice A1 (ar fs kf).locals.length d1) (.slice A2 (ar fs kf).code.length d2) R c10 (fun s' As' cs' l' b' Ab' cb' i' Ai' ci' o' Ao' co' st' nx hI hd=>?_)) ⟨rfl,rfl,rfl,rfl,rfl,trivial⟩ me
   refine(aI ?_)
   refine aY ⟨s',As',cs',l',b',Ab',cb',i',Ai',ci',o',Ao',co',st',nx⟩ (⟨hI,hinr (by omega) _ hd⟩) ⟨rfl,rfl,rfl,rfl,rfl,trivial⟩ me
  have c10:¬(be fs m).c=10:=c10
  refine ac<|aa<|rn 2 [2,3,4,5,6,7,8,9,10,11,12,13,65,215] rfl<|ae<|ay rfl (fun c11=>?_) (fun c11=>?_)
  ·have c11:(be fs m).c=11:=c11
   refine ft (CJ g1 g2 g3 g4 g5 g6 g7 g8 k li A Al As Ap Ab Ai Ao c cl cs cp cb ci co a m x.func x.pc (x.pc+1) (ar fs kf).result x.locals x.stack (be fs m) fs [.slice none 0 0,.slice none 0 0,.slice none 0 0,.slice none 0 0,.int .i64 0,.int .i64 0] (.int .i64 (ar fs kf).params) (.slice A1 (ar fs kf).locals.length d1) (.slice A2 (ar fs kf).code.length d2) R c11 (fun s' As' cs' l' b' Ab' cb' i' Ai' ci' o' Ao' co' st' nx hI hd=>?_)) ⟨rfl,rfl,rfl,rfl,rfl,rfl,rfl,trivial⟩ me
   refine(aI ?_)
   refine aY ⟨s',As',cs',l',b',Ab',cb',i',Ai',ci',o',Ao',co',st',nx⟩ (⟨hI,hinr (by omega) _ hd⟩) ⟨rfl,rfl,rfl,rfl,rfl,trivial⟩ me
  have c11:¬(be fs m).c=11:=c11
  refine ac<|aa<|rn 2 [2,3,4,5,6,7,8,9,10,11,12,13,65,230] rfl<|ae<|ay rfl (fun c12=>?_) (fun c12=>?_)
  ·have c12:(be fs m).c=12:=c12
   refine ft (CI g1 g2 g3 g4 g5 g6 g7 g8 k li A Al As Ap Ab Ai Ao c cl cs cp cb ci co a m x.func x.pc (x.pc+1) (ar fs kf).result x.locals x.stack (be fs m) fs [.slice none 0 0,.slice none 0 0,.slice none 0 0,.slice none 0 0,.int .i64 0,.int .i64 0] (.int .i64 (ar fs kf).params) (.slice A1 (ar fs kf).locals.length d1) (.slice A2 (ar fs kf).code.length d2) R c12 rfl (fun y g hy=>?_) (fun y g hy=>?_)) ⟨rfl,rfl,rfl,rfl,rfl,rfl,rfl,rfl,rfl,trivial⟩ me
   ·obtain rfl:m2=y:=hinl (by omega) y hy
    refine(aF (aj ?_))
    refine aB fY (du (cs:= [_,_,_,_,_,_]) fc aR aA rfl) ?_
    intro w hw
    exact⟨g,trivial,rfl,hw.msub ms⟩
   obtain rfl:m2=y:=hinr (by omega) y hy
   refine(aF (aj ?_))
   refine aB fY (du (cs:= [_,_,_,_,_,_]) fc aR aA rfl) ?_
   intro w hw
   exact⟨g,trivial,rfl,hw.msub ms⟩
  have c12:¬(be fs m).c=12:=c12
  refine ac<|aa<|rn 2 [3,4,5,6,8,9,10,11,12,13,65,287] rfl<|ae<|ay rfl (fun c13=>?_) (fun c13=>?_)
  ·have c13:(be fs m).c=13:=c13
   refine ft (CH g1 g2 g3 g4 g5 g6 g7 g8 k li A Al As Ap Ab Ai Ao c cl cs cp cb ci co a m x.func x.pc (x.pc+1) (ar fs kf).result x.locals x.stack (be fs m) fs [.slice none 0 0,.slice none 0 0,.slice none 0 0,.slice none 0 0,.int .i64 0,.int .i64 0] (.int .i64 (ar fs kf).params) (.slice A1 (ar fs kf).locals.length d1) (.slice A2 (ar fs kf).code.length d2) R c13 rfl (fun y g hy=>?_)) ⟨rfl,rfl,rfl,rfl,rfl,trivial⟩ me
   ·obtain rfl:m2=y:=hinr (by omega) y hy
    refine(aF (aj ?_))
    refine aB fY (du (cs:= [_,_,_,_,_,_]) fc aR aA rfl) ?_
    intro w hw
    exact⟨g,trivial,rfl,hw.msub ms⟩
  have c13:¬(be fs m).c=13:=c13
  refine ac<|aa<|rn 2 [3,4,5,6,9,10,11,12,13,65,328] rfl<|ae<|ay rfl (fun c14=>?_) (fun c14=>?_)
  ·have c14:(be fs m).c=14:=c14
   refine ft (CG g1 g2 g3 g4 g5 g6 g7 g8 k li A Al As Ap Ab Ai Ao c cl cs cp cb ci co a m x.func x.pc (x.pc+1) (ar fs kf).result x.locals x.stack (be fs m) fs [.slice none 0 0,.slice none 0 0,.slice none 0 0,.slice none 0 0,.int .i64 0,.int .i64 0] (.int .i64 (ar fs kf).params) (.slice A1 (ar fs kf).locals.length d1) (.slice A2 (ar fs kf).code.length d2) R c14 rfl (fun s' As' cs' l' b' Ab' cb' i' Ai' ci' o' Ao' co' st' nx hI hd=>?_) (fun y g hy=>?_)) ⟨rfl,rfl,rfl,rfl,rfl,rfl,rfl,trivial⟩ me
   ·refine(aI ?_)
    refine aY ⟨s',As',cs',l',b',Ab',cb',i',Ai',ci',o',Ao',co',st',nx⟩ (⟨hI,hinr (by omega) _ hd⟩) ⟨rfl,rfl,rfl,rfl,rfl,trivial⟩ me
   obtain rfl:m2=y:=hinl (by omega) y hy
   refine(aF (aj ?_))
   refine aB fY (du (cs:= [_,_,_,_,_,_]) fc aR aA rfl) ?_
   intro w hw
   exact⟨g,trivial,rfl,hw.msub ms⟩
  have c14:¬(be fs m).c=14:=c14
  refine ac<|aa<|rn 2 [3,4,5,6,9,10,11,12,13,65,369] rfl<|ae<|ay rfl (fun c15=>?_) (fun c15=>?_)
  ·have c15:(be fs m).c=15:=c15
   refine ft (CF g1 g2 g3 g4 g5 g6 g7 g8 k li A Al As Ap Ab Ai Ao c cl cs cp cb ci co a m x.func x.pc (x.pc+1) (ar fs kf).result x.locals x.stack (be fs m) fs [.slice none 0 0,.slice none 0 0,.slice none 0 0,.slice none 0 0,.int .i64 0,.int .i64 0] (.int .i64 (ar fs kf).params) (.slice A1 (ar fs kf).locals.length d1) (.slice A2 (ar fs kf).code.length d2) R c15 rfl (fun s' As' cs' l' b' Ab' cb' i' Ai' ci' o' Ao' co' st' nx hI hd=>?_) (fun y g hy=>?_)) ⟨rfl,rfl,rfl,rfl,rfl,rfl,rfl,rfl,rfl,trivial⟩ me
   ·refine(aI ?_)
    refine aY ⟨s',As',cs',l',b',Ab',cb',i',Ai',ci',o',Ao',co',st',nx⟩ (⟨hI,hinr (by omega) _ hd⟩) ⟨rfl,rfl,rfl,rfl,rfl,trivial⟩ me
   obtain rfl:m2=y:=hinl (by omega) y hy
   refine(aF (aj ?_))
   refine aB fY (du (cs:= [_,_,_,_,_,_]) fc aR aA rfl) ?_
   intro w hw
   exact⟨g,trivial,rfl,hw.msub ms⟩
  have c15:¬(be fs m).c=15:=c15
  refine ac<|aa<|rn 2 [3,4,5,6,9,10,11,12,13,65,410] rfl<|ae<|ay rfl (fun c16=>?_) (fun c16=>?_)
  ·have c16:(be fs m).c=16:=c16
   refine ft (CE g1 g2 g3 g4 g5 g6 g7 g8 k li A Al As Ap Ab Ai Ao c cl cs cp cb ci co a m x.func x.pc (x.pc+1) (ar fs kf).result x.locals x.stack (be fs m) fs [.slice none 0 0,.slice none 0 0,.slice none 0 0,.slice none 0 0,.int .i64 0,.int .i64 0] (.int .i64 (ar fs kf).params) (.slice A1 (ar fs kf).locals.length d1) (.slice A2 (ar fs kf).code.length d2) R c16 rfl (fun s' As' cs' l' b' Ab' cb' i' Ai' ci' o' Ao' co' st' nx hI hd=>?_) (fun y g hy=>?_)) ⟨rfl,rfl,rfl,rfl,rfl,rfl,rfl,rfl,trivial⟩ me
   ·refine(aI ?_)
    refine aY ⟨s',As',cs',l',b',Ab',cb',i',Ai',ci',o',Ao',co',st',nx⟩ (⟨hI,hinr (by omega) _ hd⟩) ⟨rfl,rfl,rfl,rfl,rfl,trivial⟩ me
   obtain rfl:m2=y:=hinl (by omega) y hy
   refine(aF (aj ?_))
   refine aB fY (du (cs:= [_,_,_,_,_,_]) fc aR aA rfl) ?_
   intro w hw
   exact⟨g,trivial,rfl,hw.msub ms⟩
  have c16:¬(be fs m).c=16:=c16
  refine ac<|aa<|rn 2 [3,4,5,6,9,10,11,12,13,65,452] rfl<|ae<|ay rfl (fun c17=>?_) (fun c17=>?_)
  ·have c17:(be fs m).c=17:=c17
   refine ft (CD g1 g2 g3 g4 g5 g6 g7 g8 k li A Al As Ap Ab Ai Ao c cl cs cp cb ci co a m x.func x.pc (x.pc+1) (ar fs kf).result x.locals x.stack (be fs m) fs [.slice none 0 0,.slice none 0 0,.slice none 0 0,.slice none 0 0,.int .i64 0,.int .i64 0] (.int .i64 (ar fs kf).params) (.slice A1 (ar fs kf).locals.length d1) (.slice A2 (ar fs kf).code.length d2) R c17 rfl (fun s' As' cs' l' b' Ab' cb' i' Ai' ci' o' Ao' co' st' nx hI hd=>?_) (fun y g hy=>?_)) ⟨rfl,rfl,rfl,rfl,rfl,rfl,rfl,rfl,rfl,trivial⟩ me
   ·refine(aI ?_)
    refine aY ⟨s',As',cs',l',b',Ab',cb',i',Ai',ci',o',Ao',co',st',nx⟩ (⟨hI,hinr (by omega) _ hd⟩) ⟨rfl,rfl,rfl,rfl,rfl,trivial⟩ me
   obtain rfl:m2=y:=hinl (by omega) y hy
   refine(aF (aj ?_))
   refine aB fY (du (cs:= [_,_,_,_,_,_]) fc aR aA rfl) ?_
   intro w hw
   exact⟨g,trivial,rfl,hw.msub ms⟩
  have c17:¬(be fs m).c=17:=c17
  refine ac<|aa<|rn 2 [3,4,5,6,9,10,11,12,13,65,471] rfl<|ae<|ay rfl (fun c18=>?_) (fun c18=>?_)
  ·have c18:(be fs m).c=18:=c18
   refine ft (CC g1 g2 g3 g4 g5 g6 g7 g8 k li A Al As Ap Ab Ai Ao c cl cs cp cb ci co a m x.func x.pc (x.pc+1) (ar fs kf).result x.locals x.stack (be fs m) fs [.slice none 0 0,.slice none 0 0,.slice none 0 0,.slice none 0 0,.int .i64 0,.int .i64 0] (.int .i64 (ar fs kf).params) (.slice A1 (ar fs kf).locals.length d1) (.slice A2 (ar fs kf).code.length d2) R c18 (fun s' As' cs' l' b' Ab' cb' i' Ai' ci' o' Ao' co' st' nx hI hd=>?_)) ⟨rfl,rfl,rfl,rfl,rfl,trivial⟩ me
   refine(aI ?_)
   refine aY ⟨s',As',cs',l',b',Ab',cb',i',Ai',ci',o',Ao',co',st',nx⟩ (⟨hI,hinr (by omega) _ hd⟩) ⟨rfl,rfl,rfl,rfl,rfl,trivial⟩ me
  have c18:¬(be fs m).c=18:=c18
  refine ac<|aa<|rn 2 [3,4,5,6,9,10,11,12,13,65,477] rfl<|ae<|ay rfl (fun c19=>?_) (fun c19=>?_)
  ·have c19:(be fs m).c=19:=c19
   refine ft (CB g1 g2 g3 g4 g5 g6 g7 g8 k li A Al As Ap Ab Ai Ao c cl cs cp cb ci co a m x.func x.pc (x.pc+1) (ar fs kf).result x.locals x.stack (be fs m) fs [.slice none 0 0,.slice none 0 0,.slice none 0 0,.slice none 0 0,.int .i64 0,.int .i64 0] (.int .i64 (ar fs kf).params) (.slice A1 (ar fs kf).locals.length d1) (.slice A2 (ar fs kf).code.length d2) R c19 (fun s' As' cs' l' b' Ab' cb' i' Ai' ci' o' Ao' co' st' nx hI hd=>?_)) ⟨rfl,rfl,rfl,rfl,rfl,rfl,rfl,rfl,trivial⟩ me
   refine(aI ?_)
   refine aY ⟨s',As',cs',l',b',Ab',cb',i',Ai',ci',o',Ao',co',st',nx⟩ (⟨hI,hinr (by omega) _ hd⟩) ⟨rfl,rfl,rfl,rfl,rfl,trivial⟩ me
  have c19:¬(be fs m).c=19:=c19
  refine ac<|aa<|rn 2 [3,4,5,6,9,10,11,13,65,497] rfl<|ae<|ay rfl (fun c20=>?_) (fun c20=>?_)
  ·have c20:(be fs m).c=20:=c20
   refine ft (CA g1 g2 g3 g4 g5 g6 g7 g8 k li A Al As Ap Ab Ai Ao c cl cs cp cb ci co a m x.func x.pc (x.pc+1) (ar fs kf).result x.locals x.stack (be fs m) fs [.slice none 0 0,.slice none 0 0,.slice none 0 0,.slice none 0 0,.int .i64 0,.int .i64 0] (.int .i64 (ar fs kf).params) (.slice A1 (ar fs kf).locals.length d1) (.slice A2 (ar fs kf).code.length d2) R c20 rfl (fun s' As' cs' l' b' Ab' cb' i' Ai' ci' o' Ao' co' st' nx hI hd=>?_) (fun y g hy=>?_)) ⟨rfl,rfl,rfl,rfl,rfl,rfl,rfl,trivial⟩ me
   ·refine(aI ?_)
    refine aY ⟨s',As',cs',l',b',Ab',cb',i',Ai',ci',o',Ao',co',st',nx⟩ (⟨hI,hinr (by omega) _ hd⟩) ⟨rfl,rfl,rfl,rfl,rfl,trivial⟩ me
   obtain rfl:m2=y:=hinl (by omega) y hy
   refine(aF (aj ?_))
   refine aB fY (du (cs:= [_,_,_,_,_,_]) fc aR aA rfl) ?_
   intro w hw
   exact⟨g,trivial,rfl,hw.msub ms⟩
  have c20:¬(be fs m).c=20:=c20
  refine ac<|aa<|rn 2 [4,5,6,9,11,13,520] rfl<|ae<|ay rfl (fun c21=>?_) (fun c21=>?_)
  ·have c21:(be fs m).c=21:=c21
   refine ft (Cz g1 g2 g3 g4 g5 g6 g7 g8 k li A Al As Ap Ab Ai Ao c cl cs cp cb ci co a m x.func x.pc (x.pc+1) (ar fs kf).result x.locals x.stack (be fs m) fs [.slice none 0 0,.slice none 0 0,.slice none 0 0,.slice none 0 0,.int .i64 0,.int .i64 0] (.int .i64 (ar fs kf).params) (.slice A1 (ar fs kf).locals.length d1) (.slice A2 (ar fs kf).code.length d2) R rfl (fun As' cs' Ai' ci' hi=>?_) (fun g hi=>?_)) ⟨rfl,rfl,rfl,rfl,rfl,rfl,trivial⟩ me
   ·refine(aI ?_)
    refine aY ⟨x.stack++ [cy (m.inn.getD 0 0)],As',cs',x.locals,m.blocks,Ab,cb,m.inn.drop 1,Ai',ci',m.out,Ao,co,0,x.pc+1⟩ (⟨⟨R.pi.2.2,by show aX 0;decide⟩,h21 c21 hi⟩) ⟨rfl,rfl,rfl,rfl,rfl,trivial⟩ me
   obtain rfl:m2= {m with status:=1} :=h21n c21 hi
   refine(aF (aj ?_))
   refine aB fY (du (cs:= [_,_,_,_,_,_]) fc aR aA rfl) ?_
   intro w hw
   exact⟨g,trivial,rfl,hw.msub ms⟩
  have c21:¬(be fs m).c=21:=c21
  refine az (aI ?_)
  refine aY ⟨x.stack,As,cs,x.locals,m.blocks,Ab,cb,m.inn,Ai,ci,m.out,Ao,co,m.status,x.pc+1⟩ (⟨⟨R.pi.2.2,R.hms⟩,hinr (by omega) _ (by dsimp only[bJ];rw[if_neg (by omega)];rw[if_neg (by omega)];rw[if_neg (by omega)];rw[if_neg (by omega)];rw[if_neg (by omega)];rw[if_neg (by omega)];rw[if_neg (by omega)];rw[if_neg (by omega)];rw[if_neg (by omega)];rw[if_neg (by omega)];rw[if_neg (by omega)];rw[if_neg (by omega)];rw[if_neg (by omega)];rw[if_neg (by omega)];dsimp only[eC];rw[if_neg (by omega)];rw[if_neg (by omega)];rw[if_neg (by omega)];rw[if_neg (by omega)];rw[if_neg (by omega)];rw[if_neg (by omega)];skip)⟩) ⟨rfl,rfl,rfl,rfl,rfl,trivial⟩ me
 rintro⟨s',As',cs',l',b',Ab',cb',i',Ai',ci',o',Ao',co',st',nx⟩ ⟨⟨hnx,hst'⟩,he⟩
 dsimp only at *
 subst he
 refine ac<|aa<|rn 2 [4,5,9,13,542,543] rfl<|af (ai fc a5 rfl rfl (by rfl)) rfl rfl ?_
 refine rn 3 [4,5,543,544,545,547] rfl<|ag (iy (α:=aJ) ⟨x.func,x.pc,.slice Al l'.length cl,.slice As x.stack.length cs⟩ ⟨x.func,x.pc,.slice Al l'.length cl,.slice As' s'.length cs'⟩ hlm fc ⟨⟨R.pi.1,R.pi.2.1⟩,rfl,rfl⟩ cS rfl rfl rfl rfl rfl rfl rfl rfl) rfl rfl (fun _ _=>?_)
 refine rn 2 [4,5,545,549] rfl<|ag (iy (α:=aJ) ⟨x.func,x.pc,.slice Al l'.length cl,.slice As' s'.length cs'⟩ ⟨x.func,nx,.slice Al l'.length cl,.slice As' s'.length cs'⟩ hlm fc ⟨⟨R.pi.1,hnx⟩,rfl,rfl⟩ aH rfl rfl rfl rfl rfl rfl rfl rfl) rfl rfl (fun _ _=>?_)
 refine ae<|ac<|aa<|af (aL (vs:= [_,_,_,_,_,_]) fc aR aA rfl rfl (by rfl) rfl) rfl rfl ?_
 refine ag (aG _ fc aA rfl rfl rfl rfl rfl (by rfl) rfl (by rfl)) rfl rfl (fun _ _=>?_)
 refine ae<|av<|aB fY (du (cs:= [_,_,_,_,_,_]) fc aR aA rfl) ?_
 intro w hw
 have e3:(li.map Prod.snd++ [(⟨x.func,nx,l',s'⟩:aT)]).length=k+1:=by rw[List.length_append,List.length_map,R.hk];rfl
 refine⟨⟨A,c,Ab',cb',Ai',ci',Ao',co'⟩,trivial,?_,?_⟩
 ·dsimp only;rw[e3]
 dsimp only
 rw[e3]
 exact(ju (li:=li) (h:=⟨x.func,nx,.slice Al l'.length cl,.slice As' s'.length cs'⟩) (x:=⟨x.func,nx,l',s'⟩) hok ⟨rfl,rfl⟩ (hw.msub (T:=ak (.slice A (k+1) c) (li.map Prod.fst++ [(⟨x.func,nx,.slice Al l'.length cl,.slice As' s'.length cs'⟩:aJ)])::ak (.slice Al l'.length cl) l'::ak (.slice As' s'.length cs') s'::cT li:: [ak (.slice Ab' b'.length cb') b',ak (.slice Ai' i'.length ci') i',ak (.slice Ao' o'.length co') o']) ms)).msub ms
end
section
theorem mn {fs:List aE} {m:aO} (h:dm fs m=0):ew fs∧dr fs m:=by
 unfold dm at h
 split at h
 ·rename_i h2;exact absurd h h2
 rename_i h2;exact⟨mV (Classical.not_not.1 h2),qR.1 h⟩
end
section
theorem p7 (c:Int) (w:World):Calls Tryz.prog 86 #[.int .i64 c] w fun e w'=>e= .returned (.int .i64 (dA c))∧Below w.heap.size w w':=by
 refine enter Tryz.func86 rfl Tryz.ntmps86 rfl ?_
 refine ac<|aa<|rn 1 [0] rfl<|ae<|ac<|ac<|aa<|rn 1 [3] rfl<|ae<|aP<|ac<|aa<|rn 2 [3,4] rfl<|ae<|ay rfl (fun h1=>?_) (fun h1=>?_)
 ·have h1:c=14:=h1
  refine ac<|aa<|rn 1 [2] rfl<|ae<|av (aF (aj ?_))
  refine aB Dg (ap rfl) ?_
  intro w hw
  exact⟨by rw[h1];rfl,hw.below⟩
 have h1:¬c=14:=h1
 refine ac<|aa<|rn 2 [6] rfl<|ae<|ay rfl (fun h2=>?_) (fun h2=>?_)
 ·have h2:c=12:=h2
  refine ac<|aa<|rn 1 [2] rfl<|ae<|av (aF (aj ?_))
  refine aB Dg (ap rfl) ?_
  intro w hw
  exact⟨by rw[h2];rfl,hw.below⟩
 have h2:¬c=12:=h2
 refine az (aI (au ?_))
 refine ac<|aa<|rn 1 [2] rfl<|ae<|av<|aB Dg (ap rfl) ?_
 intro w hw
 exact⟨by unfold dA;rw[if_neg h1,if_neg h2],hw.below⟩
set_option maxRecDepth 100000 in
theorem yC (Ap:Option Addr) (cp:Nat) (fs:List aE) (a:MA) (m:aO) (w:World) (hs:Sl w (.slice Ap fs.length cp) fs) (hm:d9 w.heap.size w a m) (hF:ew fs) (hR:dr fs m) (hne:m.frames≠[]) :
  Calls Tryz.prog 154 #[.agg #[.slice Ap fs.length cp],.agg #[.slice a.Af m.frames.length a.cf,.slice a.Ab m.blocks.length a.cb,.slice a.Ai m.inn.length a.ci,.slice a.Ao m.out.length a.co,.int .i64 m.status,.int .i64 m.trap]] w fun e w'=>e= .returned (.agg #[.int .i64 (be fs m).c,.int .i64 (be fs m).a])∧Below w.heap.size w w':=by
 have b1:=bV hm.f
 obtain⟨li,x,e⟩:∃li x,m.frames=li++ [x]:=by
  rcases List.eq_nil_or_concat m.frames with h1 | ⟨l,z,h1⟩
  ·exact absurd h1 hne
  exact⟨l,z,by rw[h1];simp⟩
 obtain⟨hx,hk,hop⟩:=rN (fs:=fs) e
 obtain⟨k,hkl⟩:∃k,li.length=k:=⟨_,rfl⟩
 rw[hkl] at hx hk
 obtain⟨hfn,hloc,t,he,hts⟩:=hR.top e
 obtain⟨hp0,hp1,_⟩:=(hF.e x.func.toNat (by omega)).at_ _ _ he
 obtain⟨A1,c1,A2,c2,h1,h2,hi,hc⟩:=hm.f.fr (k:=k) (by omega)
 rw[hx] at h1 h2 hi hc
 obtain⟨kf,hkf⟩:∃kf:Nat,x.func=kf:=⟨x.func.toNat,by omega⟩
 obtain⟨kp,hkp⟩:∃kp:Nat,x.pc=kp:=⟨x.pc.toNat,by omega⟩
 rw[hkf,Int.toNat_natCast] at hp1 hop
 rw[hkp,Int.toNat_natCast] at hop
 rw[hkp] at hp1
 have hkfl:kf<fs.length:=by omega
 have hkpl:kp<(ar fs kf).code.length:=by omega
 obtain⟨F1,d1,F2,d2,hfl,hfc,hfi,hfcell⟩:=hs.fn hkfl
 have bp:=bV hs
 have bc:=bV hfc
 rw[hop]
 refine enter Tryz.func154 rfl Tryz.ntmps154 rfl ?_
 refine ac<|aa<|ag (bH rfl rfl rfl) rfl rfl (fun g1 _=>?_)
 refine ag (bH rfl rfl rfl) rfl rfl (fun g2 _=>?_)
 refine ag (aZ cr rfl rfl) rfl rfl (fun g3 _=>?_)
 refine ae<|ac<|aa<|rn 1 [2,3,4,6] rfl<|af (ai fc bL rfl rfl (by rfl)) rfl rfl ?_
 refine rn 1 [2,4,7,8] rfl<|af (ai fc bL rfl rfl (by rfl)) rfl rfl ?_
 refine af (aS aV rfl rfl) rfl rfl<|af (bt rfl rfl rfl (by omega)) rfl rfl<|bG (t:=11) (v':= .int .i64 (k:Int)) rfl (congrArg (Value.int .i64) (by omega)) ?_
 refine af (aQ (k:=k) aV bn (.ro hm.f) (by omega) rfl rfl rfl) rfl rfl<|af (cu (hc _) rfl rfl gj bn) rfl rfl<|ag (aZ cK rfl rfl) rfl rfl (fun g4 _=>?_)
 refine ag (aG _ fc bn rfl rfl rfl rfl rfl (by rfl) rfl (by rfl)) rfl rfl (fun _ _=>?_)
 refine ae<|ac<|bN (.still 0 (.still 1 (.still 2 (.still 3 (.still 4 (.still 5 (.still 6 (.still 7 (.still 8 (.still 9 (.still 10 (.pick 11 .done .stop)))))))))))) [11] rfl (by kernel_rfl) (by kernel_rfl) ?_
 refine aW ha 1 [4,5,14] rfl<|an rfl (ai fc cF rfl rfl (by rfl)) rfl rfl ha ?_
 refine aW ha 1 [4,5,15,16] rfl<|an rfl (ai fc aq rfl rfl (by rfl)) rfl rfl ha ?_
 refine cG (t:=17) (v':= .int .i64 (kf:Int)) rfl (congrArg (Value.int .i64) hkf) ?_
 refine an rfl (aQ (k:=kf) bw bg (.ro hs) (by omega) rfl rfl rfl) rfl rfl ha ?_
 refine aW ha 1 [4,5,19] rfl<|an rfl (a9 (fun w hw=>hfcell _ w hw 3 _ rfl) rfl rfl dw) rfl rfl ha ?_
 refine aW ha 1 [4,20,21] rfl<|an rfl (ai fc aq rfl rfl (by rfl)) rfl rfl ha ?_
 refine cG (t:=22) (v':= .int .i64 (kp:Int)) rfl (congrArg (Value.int .i64) hkp) ?_
 refine an rfl (aQ (k:=kp) bu b8 (.ro hfc) (by omega) rfl rfl rfl) rfl rfl ha ?_
 refine an rfl (cu (cs:= [_,_]) (SF.op (.ro hfc) (by omega)) rfl rfl eS b8) rfl rfl ha ?_
 refine aC rfl (aG _ fc b8 rfl rfl rfl rfl rfl (by rfl) rfl (by rfl)) rfl rfl (.inl rfl) (fun _ _=>?_) ax
 refine cA<|av<|aB Tryz.results154 (du (cs:= [_,_]) fc eS b8 rfl) ?_
 intro w hw
 exact⟨rfl,hw.below⟩
def iR (o:bT):Int:=if df o=0 then dA o.c else 0
set_option maxRecDepth 100000 in
theorem sK (o:bT) (w:World):Calls Tryz.prog 29 #[.agg #[.int .i64 o.c,.int .i64 o.a]] w fun e w'=>e= .returned (.tuple #[.int .i64 (iR o),.int .i64 (df o)])∧Below w.heap.size w w':=by
 refine enter Tryz.func29 rfl Tryz.ntmps29 rfl ?_
 refine ac<|aa<|ag (bH rfl rfl rfl) rfl rfl (fun g1 _=>?_)
 refine rn 2 [1] rfl<|ae<|ac<|ac<|aa<|af (aL (vs:= [_,_]) fc eS b8 rfl rfl (by rfl) rfl) rfl rfl ?_
 refine ag (br rfl rfl rfl Tryz.call85 (fun w hw=>q9 o w)) rfl rfl (fun _ _=>?_)
 refine rn 1 [1,4] rfl<|ae<|ac<|aa<|rn 2 [1,4,8] rfl<|ae<|bZ rfl (fun h=>?_) (fun h=>?_)
 ·have h:¬df o=0:=h
  refine ac<|aa<|rn 3 [2,3] rfl<|ae<|av (aj ?_)
  refine bF Tryz.results29 (ap rfl) (ap rfl) ?_
  intro w hw
  exact⟨by unfold iR;rw[if_neg h],hw.below⟩
 have h:df o=0:=h
 refine az (au ?_)
 refine ac<|aa<|rn 1 [10] rfl<|af (ai fc aq rfl rfl (by rfl)) rfl rfl ?_
 refine ag (br rfl rfl rfl Tryz.call86 (fun w hw=>p7 o.c w)) rfl rfl (fun _ _=>?_)
 refine rn 2 [2,3] rfl<|ae<|av<|bF Tryz.results29 (ap rfl) (ap rfl) ?_
 intro w hw
 exact⟨by unfold iR;rw[if_pos h,h],hw.below⟩
def mN (fs:List aE) (m:aO) (k:Int):aO×Int:=if eX m then (m,k) else if k<dA (be fs m).c then (m,k) else (dy fs m,k - dA (be fs m).c)
def mm (fs:List aE) (m:aO) (k:Int):Prop:= ¬eX m∧dA (be fs m).c≤k∧(dy fs m).status=0
instance (fs:List aE) (m:aO) (k:Int):Decidable (mm fs m k):=by unfold mm;infer_instance
theorem o5 {fs:List aE} {m:aO} {k:Int} (h:eX m):mN fs m k=(m,k):=if_pos h
theorem sc {fs:List aE} {m:aO} {k:Int} (h:¬eX m) (h2:k<dA (be fs m).c):mN fs m k=(m,k):=(if_neg h).trans (if_pos h2)
theorem o4 {fs:List aE} {m:aO} {k:Int} (h:¬eX m) (h2:¬k<dA (be fs m).c):mN fs m k=(dy fs m,k - dA (be fs m).c):=(if_neg h).trans (if_neg h2)
theorem uk (fs:List aE) (m:aO) (k:Int):gH fs m k=if mm fs m k then gH fs (mN fs m k).1 (mN fs m k).2 else mN fs m k:=by
 rw[kW]
 by_cases h1:eX m
 ·rw[if_pos h1,if_neg (show¬mm fs m k from fun h=>h.1 h1),o5 h1]
 rw[if_neg h1]
 by_cases h2:k<dA (be fs m).c
 ·rw[if_pos h2,if_neg (show¬mm fs m k from fun h=>by have:=h.2.1;omega),sc h1 h2]
 rw[if_neg h2,o4 h1 h2]
 by_cases h3:(dy fs m).status=0
 ·rw[if_pos h3,if_pos (show mm fs m k from⟨h1,by omega,h3⟩)]
 rw[if_neg h3,if_neg (show¬mm fs m k from fun h=>h3 h.2.2)]
section
variable {B:Nat} {w0:World} {H:List bj}
set_option maxRecDepth 100000 in
set_option maxHeartbeats 4000000 in
theorem wC (gd:Nat) (a:MA) (m:aO) (k:Int) (Ap:Option Addr) (cp:Nat) (fs:List aE) (hs:bS w0 B (.slice Ap fs.length cp) fs) (hF:ew fs) (hR:dr fs m) (hk:0≤k∧k≤10000) (p:aO×Int) (hpe:mN fs m k=p) (w:World)
  (hw:Cw B w0 (am gd [.slice a.Af m.frames.length a.cf,.slice a.Ab m.blocks.length a.cb,.slice a.Ai m.inn.length a.ci,.slice a.Ao m.out.length a.co,.int .i64 m.status,.int .i64 m.trap,.int .i64 k] 166::ak (.slice a.Af m.frames.length a.cf) m.frames::ak (.slice a.Ab m.blocks.length a.cb) m.blocks::ak (.slice a.Ai m.inn.length a.ci) m.inn::ak (.slice a.Ao m.out.length a.co) m.out::H) w) :
  Calls Tryz.prog 119 #[.pointer (some ⟨gd,0,none⟩),.agg #[.slice Ap fs.length cp]] w fun e w'=> ∃g:MA,True∧e= .returned (.bool (decide (mm fs m k)))∧
   Cw B w0 (am gd [.slice g.Af p.1.frames.length g.cf,.slice g.Ab p.1.blocks.length g.cb,.slice g.Ai p.1.inn.length g.ci,.slice g.Ao p.1.out.length g.co,.int .i64 p.1.status,.int .i64 p.1.trap,.int .i64 p.2] 166::ak (.slice g.Af p.1.frames.length g.cf) p.1.frames::ak (.slice g.Ab p.1.blocks.length g.cb) p.1.blocks::ak (.slice g.Ai p.1.inn.length g.ci) p.1.inn::ak (.slice g.Ao p.1.out.length g.co) p.1.out::H) w':=by
 have hp:=ia (be fs m).c
 have hst:=hR.st
 have hst2:aX m.status:=⟨by omega,by omega⟩
 have htr2:aX m.trap:=by
  rcases Decidable.em (m.status=3) with h3 | h3
  ·have:=hR.t3 h3;exact⟨by omega,by omega⟩
  have:=hR.t0 h3;exact⟨by omega,by omega⟩
 refine cY Tryz.func119 rfl Tryz.ntmps119 rfl hw ?_
 refine ac<|aa<|ag (bH rfl rfl rfl) rfl rfl (fun g1 _=>?_)
 refine rn 1 [0,3] rfl<|ae<|ac<|ac<|aa<|rn 4 [0,3,9] rfl<|af (ai fc bL rfl rfl (by rfl)) rfl rfl ?_
 refine af (aS aV rfl rfl) rfl rfl<|rn 2 [0,3,13] rfl<|bK (t:=13) rfl (fun q1=>?_) (fun q1=>?_)
 ·have hh:eX m:= .inl (List.eq_nil_of_length_eq_zero (by have:=of_decide_eq_true q1;omega))
  have e:p=(m,k):=by rw[←hpe,o5 hh]
  subst e
  refine rn 7 [0,3,20] rfl<|ae<|bA rfl<|ac<|aa<|rn 1 [4] rfl<|ae<|av (aj ?_)
  refine aB tu (ap rfl) ?_
  intro w hw
  exact⟨a,trivial,bz (decide_eq_false (fun h=>h.1 hh)).symm,hw.msub ms⟩
 have hne:m.frames≠[]:=fun e=>by have:=of_decide_eq_false q1;rw[e] at this;simp at this
 refine rn 4 [0,3,13,17] rfl<|af (ai fc aq rfl rfl (by rfl)) rfl rfl ?_
 refine rn 2 [0,3,20] rfl<|ae<|ay rfl (fun q2=>?_) (fun q2=>?_)
 ·have hh:eX m:= .inr q2
  have e:p=(m,k):=by rw[←hpe,o5 hh]
  subst e
  refine ac<|aa<|rn 1 [4] rfl<|ae<|av (aj ?_)
  refine aB tu (ap rfl) ?_
  intro w hw
  exact⟨a,trivial,bz (decide_eq_false (fun h=>h.1 hh)).symm,hw.msub ms⟩
 have q2:¬m.status=3:=q2
 have hh:¬eX m:=fun h=>h.elim hne q2
 have hst3:¬(m.status=2∨m.status=3):=(not_congr (pb hR)).1 hh
 obtain⟨c,hc⟩:∃c,dA (be fs m).c=c:=⟨_,rfl⟩
 refine az (au ?_)
 refine ac<|bN (.still 0 (.still 1 (.still 2 (.still 3 (.still 4 (.pick 5 (.still 6 (.pick 7 (.still 8 .done) .stop)) .stop)))))) [] rfl (by kernel_rfl) (by kernel_rfl) ?_
 refine an rfl (aL (vs:= [_]) fc bU bI rfl rfl (by rfl) rfl) rfl rfl ha ?_
 refine aW ha 3 [0,3,21,24] rfl<|an rfl (aL (vs:= [_,_,_,_,_,_]) fc aR aA rfl rfl (by rfl) rfl) rfl rfl ha ?_
 refine aC rfl (br rfl rfl rfl Tryz.call154 (fun w hw=>yC Ap cp fs a m w (hw.ro hs) (dE hw fc fc fc fc rfl rfl rfl rfl hst2 htr2) hF hR hne)) rfl rfl (.inr fun _=>ha) (fun _ _=>?_) ax
 refine an rfl (gh (wX _ _) rfl rfl) rfl rfl ha ?_
 refine aC rfl (br rfl rfl rfl Tryz.call86 (fun w hw=>p7 _ w)) rfl rfl (.inr fun _=>ha) (fun _ _=>?_) ax
 refine aW ha 1 [0,3,5] rfl<|cA<|ac<|ac<|aa<|rn 4 [0,3,5,29,32] rfl<|af (ai fc aq rfl rfl (by rfl)) rfl rfl ?_
 refine rn 1 [0,3,5,34] rfl<|ae ?_
 rw[hc] at hp
 rw[hc]
 have hc3:=uS (be fs m).c
 refine ay rfl (fun q3=>?_) (fun q3=>?_)
 ·have q3:k<c:=q3
  have e:p=(m,k):=by rw[←hpe,sc hh (by rw[hc];exact q3)]
  subst e
  refine ac<|aa<|rn 1 [4] rfl<|ae<|av (aj ?_)
  refine aB tu (ap rfl) ?_
  intro w hw
  exact⟨a,trivial,bz (decide_eq_false (fun h=>by have:=h.2.1;omega)).symm,hw.msub ms⟩
 have q3:¬k<c:=q3
 obtain⟨m2,hm2⟩:∃m2,dy fs m=m2:=⟨_,rfl⟩
 have e:p=(m2,k - c):=by rw[←hpe,o4 hh (by rw[hc];exact q3),hm2,hc]
 subst e
 have hon:mm fs m k↔m2.status=0:=by
  unfold mm
  rw[hm2,hc]
  exact⟨fun h=>h.2.2,fun h=>⟨hh,by omega,h⟩⟩
 refine az (au ?_)
 refine ac<|aa<|rn 3 [0,3,5,35,37] rfl<|af (ai fc aq rfl rfl (by rfl)) rfl rfl ?_
 refine rn 1 [0,3,35,38,39] rfl<|af (bt rfl rfl rfl (by omega)) rfl rfl<|rn 2 [0,3,40,42] rfl<|ag (aG _ fc aH rfl rfl rfl rfl rfl (by rfl) rfl (by rfl)) rfl rfl (fun _ _=>?_)
 refine ae<|ac<|bN (.still 0 (.still 1 (.still 2 (.still 3 (.still 4 (.still 5 (.pick 6 (.still 7 (.still 8 (.pick 9 .done .stop))) .stop))))))) [9] rfl (by kernel_rfl) (by kernel_rfl) ?_
 refine aW ha 1 [0,3,43] rfl<|an rfl (aL (vs:= [_]) fc bU bI rfl rfl (by rfl) rfl) rfl rfl ha ?_
 refine aW ha 3 [0,43,44,47] rfl<|an rfl (aL (vs:= [_,_,_,_,_,_]) fc aR aA rfl rfl (by rfl) rfl) rfl rfl ha ?_
 refine aC rfl (cI rfl rfl rfl Tryz.call73 (fun w hw=>ut Ap cp fs a m m2 hm2 w (hw.ro hs) (dE hw fc fc fc fc rfl rfl rfl rfl hst2 htr2) (k0 hF hR) (fun hst=>nk hs hF hR hst))) rfl rfl (.inr fun _=>ha) (fun g5 _=>?_) ax
 refine aW ha 2 [0,49,51] rfl<|aC rfl (aG _ fc aA rfl rfl rfl rfl rfl (by rfl) rfl (by rfl)) rfl rfl (.inl rfl) (fun _ _=>?_) ax
 refine cA<|ac<|aa<|rn 4 [55] rfl<|af (ai fc aq rfl rfl (by rfl)) rfl rfl ?_
 refine rn 2 [4] rfl<|ae<|av<|aB tu (ap rfl) ?_
 intro w hw
 exact⟨g5,trivial,bz (decide_eq_decide.2 hon).symm,hw.msub ms⟩
end
end
section
theorem wV {fs:List aE} (_:ew fs) {m:aO} (_:dr fs m) {k:Int} (hon:mm fs m k):mN fs m k=(dy fs m,k - dA (be fs m).c):=by
 exact o4 hon.1 (by have:=hon.2.1;omega)
set_option maxRecDepth 100000 in
set_option maxHeartbeats 4000000 in
theorem yE (Ap:Option Addr) (cp:Nat) (fs:List aE) (a:MA) (m:aO) (k:Int) (r:aO×Int) (hr:gH fs m k=r) (w:World) (hs:Sl w (.slice Ap fs.length cp) fs) (hm:d9 w.heap.size w a m) (hF:ew fs) (hR:dr fs m) (hk:0≤k∧k≤10000) :
  Calls Tryz.prog 84 #[.agg #[.slice Ap fs.length cp],.agg #[.slice a.Af m.frames.length a.cf,.slice a.Ab m.blocks.length a.cb,.slice a.Ai m.inn.length a.ci,.slice a.Ao m.out.length a.co,.int .i64 m.status,.int .i64 m.trap],.int .i64 k] w fun e w'=> ∃g:MA,True∧
   e= .returned (.tuple #[.agg #[.slice g.Af r.1.frames.length g.cf,.slice g.Ab r.1.blocks.length g.cb,.slice g.Ai r.1.inn.length g.ci,.slice g.Ao r.1.out.length g.co,.int .i64 r.1.status,.int .i64 r.1.trap],.int .i64 r.2])∧Cw w.heap.size w [ak (.slice g.Af r.1.frames.length g.cf) r.1.frames,ak (.slice g.Ab r.1.blocks.length g.cb) r.1.blocks,ak (.slice g.Ai r.1.inn.length g.ci) r.1.inn,ak (.slice g.Ao r.1.out.length g.co) r.1.out] w':=by
 refine enter Tryz.func84 rfl Tryz.ntmps84 rfl ?_
 refine ac<|aa<|ag (bH rfl rfl rfl) rfl rfl (fun g1 _=>?_)
 refine ag (bH rfl rfl rfl) rfl rfl (fun g2 _=>?_)
 refine ag (aZ a6 rfl rfl) rfl rfl (fun g3 _=>?_)
 refine rn 1 [2,3,4,6] rfl<|ae<|ac<|aa<|af (aL (vs:= [_,_,_,_,_,_]) fc aR aA rfl rfl (by rfl) rfl) rfl rfl ?_
 refine ag (cI rfl rfl rfl tE (fun w hw=>ll a m w (d9.ro hw hm) (k0 hF hR))) rfl rfl (fun g0 _=>?_)
 refine rn 1 [3,6,10,11] rfl<|af (cq (cs:= [_,_,_,_,_,_,_]) BE Tryz.zeroValue166 rfl rfl (by rfl)) rfl rfl ?_
 refine ag (bH rfl rfl rfl) rfl rfl (fun g4 _=>?_)
 refine rn 1 [3,6,8] rfl<|ae<|ac<|aP (cn (fun g:(aO×Int)×MA=>(dr fs g.1.1∧0≤g.1.2∧g.1.2≤10000)∧gH fs g.1.1 g.1.2=r) (fun g=>g.1.2.toNat) (fun _=> [(3,.pointer (some ⟨g1,0,none⟩)),(6,.pointer (some ⟨g3,0,none⟩)),(8,.pointer (some ⟨g4,0,none⟩))]) (fun g=> [am g4 [.slice g.2.Af g.1.1.frames.length g.2.cf,.slice g.2.Ab g.1.1.blocks.length g.2.cb,.slice g.2.Ai g.1.1.inn.length g.2.ci,.slice g.2.Ao g.1.1.out.length g.2.co,.int .i64 g.1.1.status,.int .i64 g.1.1.trap,.int .i64 g.1.2] 166,ak (.slice g.2.Af g.1.1.frames.length g.2.cf) g.1.1.frames,ak (.slice g.2.Ab g.1.1.blocks.length g.2.cb) g.1.1.blocks,ak (.slice g.2.Ai g.1.1.inn.length g.2.ci) g.1.1.inn,ak (.slice g.2.Ao g.1.1.out.length g.2.co) g.1.1.out,am g1 [.slice Ap fs.length cp] 24,am g3 [.slice none 0 0,.slice none 0 0,.slice none 0 0,.slice none 0 0,.int .i64 0,.int .i64 0] 29]) ((m,k),g0) (⟨⟨hR,hk⟩,hr⟩) ⟨rfl,rfl,rfl,trivial⟩ me ?_)
 rintro⟨⟨q,z⟩,g⟩ hq
 try dsimp only
 obtain⟨⟨hRq,hz⟩,hrq⟩:(dr fs q∧0≤z∧z≤10000)∧gH fs q z=r:=hq
 obtain⟨p,hpe⟩:∃p,mN fs q z=p:=⟨_,rfl⟩
 refine ac<|ac<|aa<|rn 1 [3,6,8,14] rfl<|af (aL (vs:= [_]) fc bU bI rfl rfl (by rfl) rfl) rfl rfl ?_
 refine ag (bC rfl rfl rfl Tryz.call119 (fun w hw=>wC g4 g q z Ap cp fs hs hF hRq hz p hpe w (hw.msub (.s fc (.s fc (.s fc (.s fc (.s fc .r)))))))) rfl rfl (fun g5 _=>?_)
 refine ae<|ay rfl (fun hon=>?_) (fun hon=>?_)
 ·have hon:mm fs q z:=hon
  have e1:=(wV hF hRq hon).symm.trans hpe
  have hp:=ia (be fs q).c
  have h2:=hon.2.1
  refine az (au ?_)
  refine aP<|az (aI ?_)
  refine jR (p,g5) (by rw[←e1];exact⟨⟨jy hF hRq,by show 0≤z - _;omega,by show z - _≤_;omega⟩,by show gH fs (dy fs q) _=r;rw[←hrq,uk fs q z,if_pos hon,hpe,←e1]⟩) (by rw[←e1];show (z - _).toNat<z.toNat;omega) ⟨rfl,rfl,rfl,trivial⟩ me
 have hon:¬mm fs q z:=hon
 have e1:p=r:=by rw[←hrq,uk fs q z,if_neg hon,hpe]
 subst e1
 refine bY (aU (aU (cz (au ?_))))
 refine ac<|fm (.still 0 (.still 1 (.still 2 (.still 3 (.still 4 (.still 5 (.still 6 (.still 7 (.pick 8 (.still 9 .done) .stop))))))))) [] rfl (by kernel_rfl) (by kernel_rfl) [am g4 [.slice g5.Af p.1.frames.length g5.cf,.slice g5.Ab p.1.blocks.length g5.cb,.slice g5.Ai p.1.inn.length g5.ci,.slice g5.Ao p.1.out.length g5.co,.int .i64 p.1.status,.int .i64 p.1.trap,.int .i64 p.2] 166] ?_
 refine aW ha 3 [6,8,19] rfl<|an rfl (aL (vs:= [_,_,_,_,_,_]) fc aR aA rfl rfl (by rfl) rfl) rfl rfl ha ?_
 refine aW ha 3 [6,20,23] rfl<|an rfl (ai fc aq rfl rfl (by rfl)) rfl rfl ha ?_
 refine aC rfl (aG _ fc aA rfl rfl rfl rfl rfl (by rfl) rfl (by rfl)) rfl rfl (.inr fun _=>ha) (fun _ _=>?_) ax
 refine aW ha 1 [6,7] rfl<|cA<|av<|bF Tryz.results84 (du (cs:= [_,_,_,_,_,_]) fc aR aA rfl) (ap rfl) ?_
 intro w hw
 exact⟨g5,trivial,rfl,hw.msub ms⟩
def eG (fs:List aE) (m:aO) (k:Int):Int:=if dm fs m≠0 then dm fs m else if k<0∨10000<k then 3 else 0
def lb (fs:List aE) (m:aO) (k:Int):aO×Int:=if eG fs m k=0 then gH fs m k else (default,0)
set_option maxRecDepth 100000 in
set_option maxHeartbeats 4000000 in
theorem o7 (Ap:Option Addr) (cp:Nat) (fs:List aE) (a:MA) (m:aO) (k:Int) (r:aO×Int) (hr:lb fs m k=r) (w:World) (hs:Sl w (.slice Ap fs.length cp) fs) (hm:d9 w.heap.size w a m) (hfit:iE m.frames) :
  Calls Tryz.prog 28 #[.agg #[.slice Ap fs.length cp],.agg #[.slice a.Af m.frames.length a.cf,.slice a.Ab m.blocks.length a.cb,.slice a.Ai m.inn.length a.ci,.slice a.Ao m.out.length a.co,.int .i64 m.status,.int .i64 m.trap],.int .i64 k] w fun e w'=> ∃g:MA,True∧
   e= .returned (.tuple #[.agg #[.slice g.Af r.1.frames.length g.cf,.slice g.Ab r.1.blocks.length g.cb,.slice g.Ai r.1.inn.length g.ci,.slice g.Ao r.1.out.length g.co,.int .i64 r.1.status,.int .i64 r.1.trap],.int .i64 r.2,.int .i64 (eG fs m k)])∧Cw w.heap.size w [ak (.slice g.Af r.1.frames.length g.cf) r.1.frames,ak (.slice g.Ab r.1.blocks.length g.cb) r.1.blocks,ak (.slice g.Ai r.1.inn.length g.ci) r.1.inn,ak (.slice g.Ao r.1.out.length g.co) r.1.out] w':=by
 refine enter Tryz.func28 rfl Tryz.ntmps28 rfl ?_
 refine ac<|aa<|ag (bH rfl rfl rfl) rfl rfl (fun g1 _=>?_)
 refine ag (bH rfl rfl rfl) rfl rfl (fun g2 _=>?_)
 refine ag (aZ a6 rfl rfl) rfl rfl (fun g3 _=>?_)
 refine rn 2 [2,3,4,6] rfl<|ae<|ac<|aa<|af (aL (vs:= [_]) fc bU bI rfl rfl (by rfl) rfl) rfl rfl ?_
 refine af (aL (vs:= [_,_,_,_,_,_]) fc aR aA rfl rfl (by rfl) rfl) rfl rfl ?_
 refine ag (br rfl rfl rfl rj (fun w hw=>iL Ap cp fs a m w (hw.ro hs) (d9.ro hw hm) hfit)) rfl rfl (fun _ _=>?_)
 refine rn 1 [2,3,4,6,9] rfl<|ae<|ac<|ac<|aa<|rn 3 [2,3,4,6,9,17] rfl ?_
 unfold lb at hr
 by_cases hE:dm fs m=0
 ·obtain⟨hF,hR⟩:=mn hE
  have hE2:eG fs m k=if k<0∨10000<k then 3 else 0:=by unfold eG;rw[if_neg (fun h=>h hE)]
  rw[hE]
  refine bG (t:=17) (v':= .bool true) rfl (rfl) ?_
  refine rn 3 [2,3,4,6,9,17,20] rfl ?_
  by_cases hb0:k<0
  ·have hE3:eG fs m k=3:=by rw[hE2,if_pos (.inl hb0)]
   rw[hE3,if_neg (by decide)] at hr
   subst hr
   rw[hE3]
   refine bG (t:=20) (v':= .bool true) rfl (congrArg Value.bool (decide_eq_true hb0)) ?_
   refine rn 4 [2,3,4,6,9,24] rfl<|ae<|bA rfl<|aa<|rn 1 [2,3,4,6,9] rfl<|ae<|ac<|ac<|aa<|rn 2 [2,3,4,6,9,26] rfl<|ae<|cJ (t:=26) (v':= .bool true) rfl (rfl) ?_
   refine bA rfl<|ac<|aa<|af (cq (cs:= [_,_,_,_,_,_]) jd a6 rfl rfl (by rfl)) rfl rfl ?_
   refine rn 1 [6,27,28] rfl<|ag (aG _ fc aA rfl rfl rfl rfl rfl (by rfl) rfl (by rfl)) rfl rfl (fun _ _=>?_)
   refine rn 2 [6,7,8] rfl<|ae<|av (aj ?_)
   refine nU wh (du (cs:= [_,_,_,_,_,_]) fc aR aA rfl) (ap rfl) (ap rfl) ?_
   intro w hw
   exact⟨⟨none,0,none,0,none,0,none,0⟩,trivial,rfl,(j6 hw).msub ms⟩
  refine bG (t:=20) (v':= .bool false) rfl (congrArg Value.bool (decide_eq_false hb0)) ?_
  refine rn 4 [2,3,4,6,9,24] rfl<|ae ?_
  by_cases hb1:10000<k
  ·have hE3:eG fs m k=3:=by rw[hE2,if_pos (.inr hb1)]
   rw[hE3,if_neg (by decide)] at hr
   subst hr
   rw[hE3]
   refine cJ (t:=24) (v':= .bool true) rfl (congrArg Value.bool (decide_eq_true hb1)) ?_
   refine bA rfl<|aa<|rn 1 [2,3,4,6,9] rfl<|ae<|ac<|ac<|aa<|rn 2 [2,3,4,6,9,26] rfl<|ae<|cJ (t:=26) (v':= .bool true) rfl (rfl) ?_
   refine bA rfl<|ac<|aa<|af (cq (cs:= [_,_,_,_,_,_]) jd a6 rfl rfl (by rfl)) rfl rfl ?_
   refine rn 1 [6,27,28] rfl<|ag (aG _ fc aA rfl rfl rfl rfl rfl (by rfl) rfl (by rfl)) rfl rfl (fun _ _=>?_)
   refine rn 2 [6,7,8] rfl<|ae<|av (aj ?_)
   refine nU wh (du (cs:= [_,_,_,_,_,_]) fc aR aA rfl) (ap rfl) (ap rfl) ?_
   intro w hw
   exact⟨⟨none,0,none,0,none,0,none,0⟩,trivial,rfl,(j6 hw).msub ms⟩
  have hE3:eG fs m k=0:=by rw[hE2,if_neg (by omega)]
  rw[hE3,if_pos rfl] at hr
  rw[hE3]
  refine cJ (t:=24) (v':= .bool false) rfl (congrArg Value.bool (decide_eq_false hb1)) ?_
  refine dd rfl<|az (au ?_)
  refine ac<|ac<|aa<|rn 2 [2,3,4,6,9,26] rfl<|ae<|cJ (t:=26) (v':= .bool false) rfl (rfl) ?_
  refine dd rfl<|az (au ?_)
  refine ac<|aa<|af (aL (vs:= [_]) fc bU bI rfl rfl (by rfl) rfl) rfl rfl ?_
  refine af (aL (vs:= [_,_,_,_,_,_]) fc aR aA rfl rfl (by rfl) rfl) rfl rfl ?_
  refine rn 1 [6,30,31,32] rfl<|ag (cI rfl rfl rfl Tryz.call84 (fun w hw=>yE Ap cp fs a m k r hr w (hw.ro hs) (d9.ro hw hm) hF hR (by omega))) rfl rfl (fun g _=>?_)
  refine rn 3 [6,34,35] rfl<|ag (aZ a6 rfl rfl) rfl rfl (fun g4 _=>?_)
  refine ag (aG _ fc aA rfl rfl rfl rfl rfl (by rfl) rfl (by rfl)) rfl rfl (fun _ _=>?_)
  refine rn 1 [6,10,11] rfl<|ae<|ac<|aa<|af (aL (vs:= [_,_,_,_,_,_]) fc aR aA rfl rfl (by rfl) rfl) rfl rfl ?_
  refine rn 1 [6,36,37] rfl<|ag (aG _ fc aA rfl rfl rfl rfl rfl (by rfl) rfl (by rfl)) rfl rfl (fun _ _=>?_)
  refine rn 2 [6,7,8] rfl<|ae<|av<|nU wh (du (cs:= [_,_,_,_,_,_]) fc aR aA rfl) (ap rfl) (ap rfl) ?_
  intro w hw
  exact⟨g,trivial,rfl,hw.msub ms⟩
 have hE3:eG fs m k=dm fs m:=by unfold eG;rw[if_pos hE]
 rw[hE3,if_neg hE] at hr
 subst hr
 rw[hE3]
 refine bG (t:=17) (v':= .bool false) rfl (congrArg Value.bool (decide_eq_false hE)) ?_
 refine rn 7 [2,3,4,6,9,24] rfl<|ae<|dd rfl<|az (au ?_)
 refine ac<|ac<|aa<|rn 2 [2,3,4,6,9,26] rfl<|ae<|cJ (t:=26) (v':= .bool true) rfl (congrArg Value.bool (by simp[hE])) ?_
 refine bA rfl<|ac<|aa<|af (cq (cs:= [_,_,_,_,_,_]) jd a6 rfl rfl (by rfl)) rfl rfl ?_
 refine rn 1 [6,27,28] rfl<|ag (aG _ fc aA rfl rfl rfl rfl rfl (by rfl) rfl (by rfl)) rfl rfl (fun _ _=>?_)
 refine rn 2 [6,7,8] rfl<|ae<|av (aj ?_)
 refine nU wh (du (cs:= [_,_,_,_,_,_]) fc aR aA rfl) (ap rfl) (ap rfl) ?_
 intro w hw
 exact⟨⟨none,0,none,0,none,0,none,0⟩,trivial,rfl,(j6 hw).msub ms⟩
end
section
def pJ:aO:=⟨[],[],[],[3,2,1],2,0⟩
def sf:aO:=⟨[⟨0,5,[],[⟨false,2⟩]⟩],[],[],[3],0,0⟩
set_option maxRecDepth 100000 in
theorem ip:eG eJ fH 100=0∧lb eJ fH 100=(pJ,77)∧eG eJ fH 5=0∧lb eJ fH 5=(sf,0)∧df ⟨14,0⟩=0∧iR ⟨14,0⟩=3:=by
 refine⟨?_,?_,?_,?_,?_,?_⟩ <;> kernel_rfl
theorem mZ (A:Option Addr) (c:Nat) (a:MA) (w:World) (hs:Sl w (.slice A 1 c) eJ) (hm:d9 w.heap.size w a fH) :
  Calls Tryz.prog 28 #[.agg #[.slice A 1 c],.agg #[.slice a.Af 1 a.cf,.slice a.Ab 0 a.cb,.slice a.Ai 0 a.ci,.slice a.Ao 0 a.co,.int .i64 0,.int .i64 0],.int .i64 100] w fun e w'=> ∃g:MA,True∧
   e= .returned (.tuple #[.agg #[.slice g.Af 0 g.cf,.slice g.Ab 0 g.cb,.slice g.Ai 0 g.ci,.slice g.Ao 3 g.co,.int .i64 2,.int .i64 0],.int .i64 77,.int .i64 0])∧Cw w.heap.size w [ak (.slice g.Af 0 g.cf) pJ.frames,ak (.slice g.Ab 0 g.cb) pJ.blocks,ak (.slice g.Ai 0 g.ci) pJ.inn,ak (.slice g.Ao 3 g.co) pJ.out] w':=by
 have:=o7 A c eJ a fH 100 _ ip.2.1 w hs hm od
 rw[ip.1] at this
 exact this
theorem mY (A:Option Addr) (c:Nat) (a:MA) (w:World) (hs:Sl w (.slice A 1 c) eJ) (hm:d9 w.heap.size w a fH) :
  Calls Tryz.prog 28 #[.agg #[.slice A 1 c],.agg #[.slice a.Af 1 a.cf,.slice a.Ab 0 a.cb,.slice a.Ai 0 a.ci,.slice a.Ao 0 a.co,.int .i64 0,.int .i64 0],.int .i64 5] w fun e w'=> ∃g:MA,True∧
   e= .returned (.tuple #[.agg #[.slice g.Af 1 g.cf,.slice g.Ab 0 g.cb,.slice g.Ai 0 g.ci,.slice g.Ao 1 g.co,.int .i64 0,.int .i64 0],.int .i64 0,.int .i64 0])∧Cw w.heap.size w [ak (.slice g.Af 1 g.cf) sf.frames,ak (.slice g.Ab 0 g.cb) sf.blocks,ak (.slice g.Ai 0 g.ci) sf.inn,ak (.slice g.Ao 1 g.co) sf.out] w':=by
 have:=o7 A c eJ a fH 5 _ ip.2.2.2.1 w hs hm od
 rw[ip.2.2.1] at this
 exact this
theorem vV (w:World):Calls Tryz.prog 29 #[.agg #[.int .i64 14,.int .i64 0]] w fun e w'=>e= .returned (.tuple #[.int .i64 3,.int .i64 0])∧Below w.heap.size w w':=by
 have:=sK ⟨14,0⟩ w
 rw[ip.2.2.2.2.1,ip.2.2.2.2.2] at this
 exact this
set_option maxRecDepth 100000 in
set_option maxHeartbeats 4000000 in
theorem qD (w:World):Calls Tryz.prog 33 #[] w fun e w'=>e= .returned (.bool true)∧Below w.heap.size w w':=by
 obtain⟨f1,f2,f3,f4,f5,f6,f7,f8,f9⟩:=pM
 refine enter Tryz.func33 rfl Tryz.ntmps33 rfl ?_
 refine ac<|aa<|rn 1 [] rfl<|ae<|ac<|aa<|ag (cI rfl rfl rfl kG (fun w hw=>fu w)) rfl rfl (fun gp _=>?_)
 refine ag (cI rfl rfl rfl Cx (fun w hw=>l3 f1 f2 rfl _ _ w (SF.at_ (SF.own rfl fc) hw))) rfl rfl (fun a1 _=>?_)
 refine rn 3 [14,15] rfl<|ag (aZ a6 rfl rfl) rfl rfl (fun g1 _=>?_)
 refine ag (aG _ fc aA rfl rfl rfl rfl rfl (by rfl) rfl (by rfl)) rfl rfl (fun _ _=>?_)
 refine rn 1 [1] rfl<|ae<|dS (fun _:Nat×MA=>True) (fun g=> [(1,.pointer (some ⟨g1,0,none⟩)),(3,.pointer (some ⟨g.1,0,none⟩)),(4,.int .i64 77),(5,.int .i64 0)]) (fun g=> [am g.1 [.slice g.2.Af 0 g.2.cf,.slice g.2.Ab 0 g.2.cb,.slice g.2.Ai 0 g.2.ci,.slice g.2.Ao 3 g.2.co,.int .i64 2,.int .i64 0] 29,ak (.slice g.2.Ao 3 g.2.co) pJ.out,am g1 [.slice a1.Af 1 a1.cf,.slice a1.Ab 0 a1.cb,.slice a1.Ai 0 a1.ci,.slice a1.Ao 0 a1.co,.int .i64 0,.int .i64 0] 29,ak (.slice a1.Af 1 a1.cf) fH.frames,ak (.slice a1.Ab 0 a1.cb) fH.blocks,ak (.slice a1.Ai 0 a1.ci) fH.inn,ak (.slice a1.Ao 0 a1.co) fH.out]) ?_ ?_
 ·refine bN (.still 1 (.pick 0 (.pick 2 (.calm 3 (.calm 4 (.calm 5 (.calm 6 (.pick 7 (.pick 8 (.calm 9 (.calm 10 .done)) .stop) .stop))))) (.pick 7 (.pick 2 (.calm 3 (.calm 4 (.calm 5 (.calm 6 (.pick 8 (.calm 9 (.calm 10 .done)) .stop))))) .stop) .stop)) (.pick 7 (.pick 0 (.pick 2 (.calm 3 (.calm 4 (.calm 5 (.calm 6 (.pick 8 (.calm 9 (.calm 10 .done)) .stop))))) .stop) .stop) .stop))) [2,3,4,5,6,8,9,10] rfl (by kernel_rfl) (by kernel_rfl) ?_
  refine an rfl (aL (vs:= [_,_,_,_,_,_]) fc aR aA rfl rfl (by rfl) rfl) rfl rfl ha ?_
  refine aC rfl (cI rfl rfl rfl kG (fun w hw=>fu w)) rfl rfl (.inr fun _=>ha) (fun gq _=>?_) ?_
  ·refine aC rfl (cI rfl rfl rfl oq (fun w hw=>mZ _ _ a1 w (SF.at_ (SF.own rfl fc) hw) (dE hw fc fc fc fc rfl rfl rfl rfl (by decide) (by decide)))) rfl rfl (.inl rfl) (fun a2 _=>?_) ?_
   ·refine dF 4 [1,20,21,22] rfl<|aC rfl (aZ a6 rfl rfl) rfl rfl (.inr fun _=>ha) (fun q _=>?_) ax
    refine aC rfl (aG [_,_,_,_,_,_] fc aA rfl rfl rfl rfl rfl (by rfl) rfl (by rfl)) rfl rfl (.inl rfl) (fun _ _=>?_) ax
    refine dF 2 [1,3,4,5] rfl<|cd<|aY (q,a2) (trivial) ⟨rfl,rfl,rfl,rfl,trivial⟩ (fun _ h=>h.msub ms)
   refine aC rfl (aZ a6 rfl rfl) rfl rfl (.inr fun _=>ha) (fun q _=>?_) ax
   refine aC rfl (cI rfl rfl rfl oq (fun w hw=>mZ _ _ a1 w (SF.at_ (SF.own rfl fc) hw) (dE hw fc fc fc fc rfl rfl rfl rfl (by decide) (by decide)))) rfl rfl (.inl rfl) (fun a2 _=>?_) ax
   refine dF 4 [1,3,20,21,22] rfl<|aC rfl (aG [_,_,_,_,_,_] fc aA rfl rfl rfl rfl rfl (by rfl) rfl (by rfl)) rfl rfl (.inl rfl) (fun _ _=>?_) ax
   refine dF 2 [1,3,4,5] rfl<|cd<|aY (q,a2) (trivial) ⟨rfl,rfl,rfl,rfl,trivial⟩ (fun _ h=>h.msub ms)
  refine aC rfl (aZ a6 rfl rfl) rfl rfl (.inr fun _=>ha) (fun q _=>?_) ax
  refine aC rfl (cI rfl rfl rfl kG (fun w hw=>fu w)) rfl rfl (.inr fun _=>ha) (fun gq _=>?_) ax
  refine aC rfl (cI rfl rfl rfl oq (fun w hw=>mZ _ _ a1 w (SF.at_ (SF.own rfl fc) hw) (dE hw fc fc fc fc rfl rfl rfl rfl (by decide) (by decide)))) rfl rfl (.inl rfl) (fun a2 _=>?_) ax
  refine dF 4 [1,3,20,21,22] rfl<|aC rfl (aG [_,_,_,_,_,_] fc aA rfl rfl rfl rfl rfl (by rfl) rfl (by rfl)) rfl rfl (.inl rfl) (fun _ _=>?_) ax
  refine dF 2 [1,3,4,5] rfl<|cd<|aY (q,a2) (trivial) ⟨rfl,rfl,rfl,rfl,trivial⟩ (fun _ h=>h.msub ms)
 rintro⟨ga,a2⟩ _
 try dsimp only
 refine dS (fun _:Nat×MA=>True) (fun g=> [(3,.pointer (some ⟨ga,0,none⟩)),(4,.int .i64 77),(5,.int .i64 0),(6,.pointer (some ⟨g.1,0,none⟩)),(7,.int .i64 0),(8,.int .i64 0)]) (fun g=> [am g.1 [.slice g.2.Af 1 g.2.cf,.slice g.2.Ab 0 g.2.cb,.slice g.2.Ai 0 g.2.ci,.slice g.2.Ao 1 g.2.co,.int .i64 0,.int .i64 0] 29,ak (.slice g.2.Af 1 g.2.cf) sf.frames,am ga [.slice a2.Af 0 a2.cf,.slice a2.Ab 0 a2.cb,.slice a2.Ai 0 a2.ci,.slice a2.Ao 3 a2.co,.int .i64 2,.int .i64 0] 29,ak (.slice a2.Ao 3 a2.co) pJ.out]) ?_ ?_
 ·refine bN (.still 1 (.pick 0 (.pick 2 (.calm 3 (.calm 4 (.calm 5 (.calm 6 (.pick 7 (.pick 8 (.calm 9 (.calm 10 .done)) .stop) .stop))))) (.pick 7 (.pick 2 (.calm 3 (.calm 4 (.calm 5 (.calm 6 (.pick 8 (.calm 9 (.calm 10 .done)) .stop))))) .stop) .stop)) (.pick 7 (.pick 0 (.pick 2 (.calm 3 (.calm 4 (.calm 5 (.calm 6 (.pick 8 (.calm 9 (.calm 10 .done)) .stop))))) .stop) .stop) .stop))) [2,3,4,5,6,8,9,10] rfl (by kernel_rfl) (by kernel_rfl) ?_
  refine an rfl (aL (vs:= [_,_,_,_,_,_]) fc aR aA rfl rfl (by rfl) rfl) rfl rfl ha ?_
  refine aC rfl (cI rfl rfl rfl kG (fun w hw=>fu w)) rfl rfl (.inr fun _=>ha) (fun gq _=>?_) ?_
  ·refine aC rfl (cI rfl rfl rfl oq (fun w hw=>mY _ _ a1 w (SF.at_ (SF.own rfl fc) hw) (dE hw fc fc fc fc rfl rfl rfl rfl (by decide) (by decide)))) rfl rfl (.inl rfl) (fun a3 _=>?_) ?_
   ·refine dF 4 [3,4,5,27,28,29] rfl<|aC rfl (aZ a6 rfl rfl) rfl rfl (.inr fun _=>ha) (fun q _=>?_) ax
    refine aC rfl (aG [_,_,_,_,_,_] fc aA rfl rfl rfl rfl rfl (by rfl) rfl (by rfl)) rfl rfl (.inl rfl) (fun _ _=>?_) ax
    refine dF 2 [3,4,5,6,7,8] rfl<|cd<|aY (q,a3) (trivial) ⟨rfl,rfl,rfl,rfl,rfl,rfl,trivial⟩ (fun _ h=>h.msub ms)
   refine aC rfl (aZ a6 rfl rfl) rfl rfl (.inr fun _=>ha) (fun q _=>?_) ax
   refine aC rfl (cI rfl rfl rfl oq (fun w hw=>mY _ _ a1 w (SF.at_ (SF.own rfl fc) hw) (dE hw fc fc fc fc rfl rfl rfl rfl (by decide) (by decide)))) rfl rfl (.inl rfl) (fun a3 _=>?_) ax
   refine dF 4 [3,4,5,6,27,28,29] rfl<|aC rfl (aG [_,_,_,_,_,_] fc aA rfl rfl rfl rfl rfl (by rfl) rfl (by rfl)) rfl rfl (.inl rfl) (fun _ _=>?_) ax
   refine dF 2 [3,4,5,6,7,8] rfl<|cd<|aY (q,a3) (trivial) ⟨rfl,rfl,rfl,rfl,rfl,rfl,trivial⟩ (fun _ h=>h.msub ms)
  refine aC rfl (aZ a6 rfl rfl) rfl rfl (.inr fun _=>ha) (fun q _=>?_) ax
  refine aC rfl (cI rfl rfl rfl kG (fun w hw=>fu w)) rfl rfl (.inr fun _=>ha) (fun gq _=>?_) ax
  refine aC rfl (cI rfl rfl rfl oq (fun w hw=>mY _ _ a1 w (SF.at_ (SF.own rfl fc) hw) (dE hw fc fc fc fc rfl rfl rfl rfl (by decide) (by decide)))) rfl rfl (.inl rfl) (fun a3 _=>?_) ax
  refine dF 4 [3,4,5,6,27,28,29] rfl<|aC rfl (aG [_,_,_,_,_,_] fc aA rfl rfl rfl rfl rfl (by rfl) rfl (by rfl)) rfl rfl (.inl rfl) (fun _ _=>?_) ax
  refine dF 2 [3,4,5,6,7,8] rfl<|cd<|aY (q,a3) (trivial) ⟨rfl,rfl,rfl,rfl,rfl,rfl,trivial⟩ (fun _ h=>h.msub ms)
 rintro⟨gb,a3⟩ _
 try dsimp only
 refine sH (k:=1) (c:=a3.cf) (A:=a3.Af) (fr:=sf.frames) rfl fc fun X hsX hX=>?_
 obtain⟨B1,d1,B2,d2,e1,hX1⟩:=hX.el 0 (by decide)
 refine ac<|aa<|af (cq (cs:= [_,_]) fG cr rfl rfl (by rfl)) rfl rfl ?_
 refine ag (br rfl rfl rfl Tryz.call29 (fun w hw=>vV w)) rfl rfl (fun _ _=>?_)
 refine rn 5 [3,4,5,6,7,8,9,10] rfl<|ae<|ac<|aa<|rn 3 [3,4,6,7,8,9,10,37] rfl<|bG (t:=37) (v':= .bool true) rfl (rfl) ?_
 refine rn 4 [3,4,6,7,9,10,41] rfl<|bG (t:=41) (v':= .bool true) rfl (rfl) ?_
 refine rn 4 [3,4,6,7,9,45] rfl<|bG (t:=45) (v':= .bool true) rfl (rfl) ?_
 refine rn 1 [3,4,6,7,9,45,46] rfl<|af (ai fc aq rfl rfl (by rfl)) rfl rfl ?_
 refine rn 3 [3,4,6,7,9,50] rfl<|bG (t:=50) (v':= .bool true) rfl (rfl) ?_
 refine rn 1 [4,6,7,9,50,51] rfl<|af (ai fc a7 rfl rfl (by rfl)) rfl rfl ?_
 refine ag (bh (cs:= [_,_,_]) ah aH a8 rfl rfl rfl rfl rfl) rfl rfl (fun g2 _=>?_)
 refine iX (fun w h=>cc (α:=Int) (m:=3) [3,2,1] rfl (by intro x hx;simp at hx;rcases hx with rfl | rfl | rfl <;> (show aX _;decide)) rfl (by decide) (h.msub (T:= [am g2 _ _,ak (.slice a3.Af 1 a3.cf) hsX,X,am gb [.slice a3.Af 1 a3.cf,.slice a3.Ab 0 a3.cb,.slice a3.Ai 0 a3.ci,.slice a3.Ao 1 a3.co,.int .i64 0,.int .i64 0] 29,am ga [.slice a2.Af 0 a2.cf,.slice a2.Ab 0 a2.cb,.slice a2.Ai 0 a2.ci,.slice a2.Ao 3 a2.co,.int .i64 2,.int .i64 0] 29,ak (.slice a2.Ao 3 a2.co) pJ.out]) ms)) ?_
 refine ag (br rfl rfl rfl wi (fun w hw=>jA a2.Ao (some ⟨g2,0,none⟩) a2.co 3 [3,2,1] [3,2,1] w (SF.at_ (SF.own (A:=a2.Ao) (m:=3) (c:=a2.co) (xs:=pJ.out) rfl fc) hw) (SF.at_ (SF.own (A:=some ⟨g2,0,none⟩) (m:=3) (c:=3) (xs:= [3,2,1]) rfl fc) hw))) rfl rfl (fun _ _=>?_)
 refine rn 2 [4,6,7,9,56] rfl<|bG (t:=56) (v':= .bool true) rfl (congrArg Value.bool (decide_eq_true rfl)) ?_
 refine rn 4 [6,7,9,60] rfl<|bG (t:=60) (v':= .bool true) rfl (rfl) ?_
 refine rn 1 [6,7,9,60,61] rfl<|af (ai fc aq rfl rfl (by rfl)) rfl rfl ?_
 refine rn 3 [6,7,9,65] rfl<|bG (t:=65) (v':= .bool true) rfl (rfl) ?_
 refine rn 4 [6,9,69] rfl<|bG (t:=69) (v':= .bool true) rfl (rfl) ?_
 refine rn 1 [9,69,70] rfl<|af (ai fc bL rfl rfl (by rfl)) rfl rfl ?_
 refine af (aQ (k:=0) aV bn (SF.own (α:=aJ) hX.len fc) (by omega) rfl rfl rfl) rfl rfl ?_
 refine rn 1 [9,69,73] rfl<|af (a9 (fun w hw=>(SF.hfr (SF.own (α:=aJ) hX.len fc) (k:=0) (by decide) e1) w hw 1 _ rfl) rfl rfl aq) rfl rfl ?_
 refine rn 3 [9,77] rfl<|bG (t:=77) (v':= .bool true) rfl (rfl) ?_
 refine rn 4 [0] rfl<|ae<|av<|aB Tryz.results33 (ap rfl) ?_
 intro w hw
 exact⟨rfl,hw.below⟩
end
section
theorem ns {fs:List aE} {m:aO} (h:dr fs m):aX m.status∧aX m.trap:=by
 have hs:=h.st
 refine⟨⟨by omega,by omega⟩,?_⟩
 rcases Decidable.em (m.status=3) with h3 | h3
 ·have:=h.t3 h3;exact⟨by omega,by omega⟩
 have:=h.t0 h3;exact⟨by omega,by omega⟩
theorem zT {fs:List aE} {m:aO} {k:Int} (h:dm fs m=0) (hk:0≤k∧k≤10000):eG fs m k=0:=by
 unfold eG
 rw[if_neg (fun h'=>h' h),if_neg (by omega)]
theorem um {fs:List aE} {m:aO} {k:Int} (h:dm fs m=0) (hk:0≤k∧k≤10000):lb fs m k=gH fs m k:=by
 unfold lb
 rw[if_pos (zT h hk)]
theorem qO {fs:List aE} {m:aO} {k:Int} (h:eG fs m k=0):dm fs m=0∧0≤k∧k≤10000:=by
 unfold eG at h
 split at h
 ·rename_i h2;exact absurd h h2
 rename_i h2
 split at h
 ·cases h
 exact⟨Classical.not_not.1 h2,by omega⟩
theorem rR (a b:MA) (m n:aO) (he:m=n) (w:World) (h1:d9 w.heap.size w a m) (h2:d9 w.heap.size w b n) :
  Calls Tryz.prog 53 #[.agg #[.slice a.Af m.frames.length a.cf,.slice a.Ab m.blocks.length a.cb,.slice a.Ai m.inn.length a.ci,.slice a.Ao m.out.length a.co,.int .i64 m.status,.int .i64 m.trap],
   .agg #[.slice b.Af n.frames.length b.cf,.slice b.Ab n.blocks.length b.cb,.slice b.Ai n.inn.length b.ci,.slice b.Ao n.out.length b.co,.int .i64 n.status,.int .i64 n.trap]] w fun e w'=>e= .returned (.bool true)∧Below w.heap.size w w':=by
 have:=rS a b m n w h1 h2
 rwa [decide_eq_true he] at this
end
section
theorem mO {B:Nat} {w:World} :d9 B w ⟨none,0,none,0,none,0,none,0⟩ default:=⟨bS.nil_,bS.nil_,bS.nil_,bS.nil_,(by decide:aX 0),(by decide:aX 0)⟩
set_option maxRecDepth 100000 in
set_option maxHeartbeats 1000000 in
theorem fL (a b:MA) (m1 m2:aO) (e:Int) (he:m1=if e≠0 then default else m2) (w:World) (h1:d9 w.heap.size w a m1) (h2:d9 w.heap.size w b m2) :
  Calls Tryz.prog 21 #[.agg #[.slice a.Af m1.frames.length a.cf,.slice a.Ab m1.blocks.length a.cb,.slice a.Ai m1.inn.length a.ci,.slice a.Ao m1.out.length a.co,.int .i64 m1.status,.int .i64 m1.trap],.int .i64 e,.int .i64 e,
   .agg #[.slice b.Af m2.frames.length b.cf,.slice b.Ab m2.blocks.length b.cb,.slice b.Ai m2.inn.length b.ci,.slice b.Ao m2.out.length b.co,.int .i64 m2.status,.int .i64 m2.trap]] w fun e w'=>e= .returned (.bool true)∧Below w.heap.size w w':=by
 refine enter Tryz.func21 rfl Tryz.ntmps21 rfl ?_
 refine ac<|aa<|ag (bH rfl rfl rfl) rfl rfl (fun g1 _=>?_)
 refine ag (bH rfl rfl rfl) rfl rfl (fun g2 _=>?_)
 refine rn 1 [1,2,4,7] rfl<|ae<|ac<|ac<|aa<|rn 2 [1,2,4,7,10] rfl<|ae<|bZ rfl (fun h=>?_) (fun h=>?_)
 ·have h:¬e=0:=h
  rw[if_pos h] at he
  subst he
  refine aa<|af (cq (cs:= [_,_,_,_,_,_]) jd a6 rfl rfl (by rfl)) rfl rfl ?_
  refine ag (aG _ fc aA rfl rfl rfl rfl rfl (by rfl) rfl (by rfl)) rfl rfl (fun _ _=>?_)
  refine ae<|ac<|aa<|rn 4 [4,7,15] rfl<|bG (t:=15) (v':= .bool true) rfl (congrArg Value.bool (decide_eq_true rfl)) ?_
  refine af (aL (vs:= [_,_,_,_,_,_]) fc aR aA rfl rfl (by rfl) rfl) rfl rfl ?_
  refine af (aL (vs:= [_,_,_,_,_,_]) fc aR aA rfl rfl (by rfl) rfl) rfl rfl ?_
  refine ag (br rfl rfl rfl Tryz.call53 (fun w hw=>rR a ⟨none,0,none,0,none,0,none,0⟩ default default rfl w (h1.ro hw) mO)) rfl rfl (fun _ _=>?_)
  refine rn 2 [8] rfl<|ae<|av<|aB Tryz.results21 (ap rfl) ?_
  intro w hw
  exact⟨rfl,hw.below⟩
 have h:e=0:=h
 rw[if_neg (fun h'=>h' h)] at he
 subst he
 refine az (au ?_)
 refine ac<|aa<|rn 4 [4,7,15] rfl<|bG (t:=15) (v':= .bool true) rfl (congrArg Value.bool (decide_eq_true rfl)) ?_
 refine af (aL (vs:= [_,_,_,_,_,_]) fc aR aA rfl rfl (by rfl) rfl) rfl rfl ?_
 refine af (aL (vs:= [_,_,_,_,_,_]) fc aR aA rfl rfl (by rfl) rfl) rfl rfl ?_
 refine ag (br rfl rfl rfl Tryz.call53 (fun w hw=>rR a b m1 m1 rfl w (h1.ro hw) (h2.ro hw))) rfl rfl (fun _ _=>?_)
 refine rn 2 [8] rfl<|ae<|av<|aB Tryz.results21 (ap rfl) ?_
 intro w hw
 exact⟨rfl,hw.below⟩
set_option maxRecDepth 100000 in
theorem oy (c:Int) (w:World):Calls Tryz.prog 32 #[.int .i64 c] w fun e w'=>e= .returned (.int .i64 (dA c))∧Below w.heap.size w w':=by
 refine enter Tryz.func32 rfl Tryz.ntmps32 rfl ?_
 refine ac<|aa<|rn 1 [0] rfl<|ae<|ac<|ac<|aa<|rn 2 [0,4] rfl<|ae<|ay rfl (fun h=>?_) (fun h=>?_)
 ·have h:c=14:=h
  refine ac<|aa<|rn 1 [2] rfl<|ae<|av (aj ?_)
  refine aB Dj (ap rfl) ?_
  intro w hw
  exact⟨ee (by unfold dA;rw[if_pos h]),hw.below⟩
 have h:¬c=14:=h
 refine az (au ?_)
 refine ac<|ac<|aa<|rn 2 [6] rfl<|ae<|ay rfl (fun h2=>?_) (fun h2=>?_)
 ·have h2:c=12:=h2
  refine ac<|aa<|rn 1 [2] rfl<|ae<|av (aj ?_)
  refine aB Dj (ap rfl) ?_
  intro w hw
  exact⟨ee (by unfold dA;rw[if_neg h,if_pos h2]),hw.below⟩
 have h2:¬c=12:=h2
 refine az (au ?_)
 refine ac<|aa<|rn 1 [2] rfl<|ae<|av<|aB Dj (ap rfl) ?_
 intro w hw
 exact⟨ee (by unfold dA;rw[if_neg h,if_neg h2]),hw.below⟩
set_option maxRecDepth 100000 in
set_option maxHeartbeats 2000000 in
theorem vc (Ap:Option Addr) (cp:Nat) (fs:List aE) (a:MA) (m:aO) (k:Int) (r:aO×Int) (hr:gH fs m k=r) (w:World) (hs:Sl w (.slice Ap fs.length cp) fs) (hm:d9 w.heap.size w a m) (hF:ew fs) (hR:dr fs m) (hk:0≤k∧k≤10000) :
  Calls Tryz.prog 31 #[.agg #[.slice Ap fs.length cp],.agg #[.slice a.Af m.frames.length a.cf,.slice a.Ab m.blocks.length a.cb,.slice a.Ai m.inn.length a.ci,.slice a.Ao m.out.length a.co,.int .i64 m.status,.int .i64 m.trap],.int .i64 k] w fun e w'=> ∃g:MA,True∧
   e= .returned (.tuple #[.agg #[.slice g.Af r.1.frames.length g.cf,.slice g.Ab r.1.blocks.length g.cb,.slice g.Ai r.1.inn.length g.ci,.slice g.Ao r.1.out.length g.co,.int .i64 r.1.status,.int .i64 r.1.trap],.int .i64 r.2])∧Cw w.heap.size w [ak (.slice g.Af r.1.frames.length g.cf) r.1.frames,ak (.slice g.Ab r.1.blocks.length g.cb) r.1.blocks,ak (.slice g.Ai r.1.inn.length g.ci) r.1.inn,ak (.slice g.Ao r.1.out.length g.co) r.1.out] w':=by
 have hfit:=k0 hF hR
 refine enter Tryz.func31 rfl Tryz.ntmps31 rfl ?_
 refine ac<|aa<|ag (bH rfl rfl rfl) rfl rfl (fun g1 _=>?_)
 refine ag (bH rfl rfl rfl) rfl rfl (fun g2 _=>?_)
 refine ag (aZ a6 rfl rfl) rfl rfl (fun g3 _=>?_)
 refine rn 1 [2,3,4,6] rfl<|ae<|ac<|aa<|af (aL (vs:= [_,_,_,_,_,_]) fc aR aA rfl rfl (by rfl) rfl) rfl rfl ?_
 refine ag (cI rfl rfl rfl Cv (fun w hw=>kJ a m w (hm.ro hw) hfit)) rfl rfl (fun ga _=>?_)
 refine ag (aG _ fc aA rfl rfl rfl rfl rfl (by rfl) rfl (by rfl)) rfl rfl (fun _ _=>?_)
 refine ae<|dS (fun g:(aO×Int)×MA=>g.1=r) (fun g=> [(2,.int .i64 g.1.2),(4,.pointer (some ⟨g2,0,none⟩)),(6,.pointer (some ⟨g3,0,none⟩))]) (fun g=> [am g2 [.slice g.2.Af g.1.1.frames.length g.2.cf,.slice g.2.Ab g.1.1.blocks.length g.2.cb,.slice g.2.Ai g.1.1.inn.length g.2.ci,.slice g.2.Ao g.1.1.out.length g.2.co,.int .i64 g.1.1.status,.int .i64 g.1.1.trap] 29,ak (.slice g.2.Af g.1.1.frames.length g.2.cf) g.1.1.frames,ak (.slice g.2.Ab g.1.1.blocks.length g.2.cb) g.1.1.blocks,ak (.slice g.2.Ai g.1.1.inn.length g.2.ci) g.1.1.inn,ak (.slice g.2.Ao g.1.1.out.length g.2.co) g.1.1.out,am g3 [.slice none 0 0,.slice none 0 0,.slice none 0 0,.slice none 0 0,.int .i64 0,.int .i64 0] 29,am g1 [.slice Ap fs.length cp] 24]) ?_ ?_
 ·refine aP (cn (fun g:(aO×Int)×MA=>(dr fs g.1.1∧0≤g.1.2∧g.1.2≤10000)∧gH fs g.1.1 g.1.2=r) (fun g=>g.1.2.toNat) (fun g=> [(2,.int .i64 g.1.2),(3,.pointer (some ⟨g1,0,none⟩)),(4,.pointer (some ⟨g2,0,none⟩)),(6,.pointer (some ⟨g3,0,none⟩))]) (fun g=> [am g2 [.slice g.2.Af g.1.1.frames.length g.2.cf,.slice g.2.Ab g.1.1.blocks.length g.2.cb,.slice g.2.Ai g.1.1.inn.length g.2.ci,.slice g.2.Ao g.1.1.out.length g.2.co,.int .i64 g.1.1.status,.int .i64 g.1.1.trap] 29,ak (.slice g.2.Af g.1.1.frames.length g.2.cf) g.1.1.frames,ak (.slice g.2.Ab g.1.1.blocks.length g.2.cb) g.1.1.blocks,ak (.slice g.2.Ai g.1.1.inn.length g.2.ci) g.1.1.inn,ak (.slice g.2.Ao g.1.1.out.length g.2.co) g.1.1.out,am g3 [.slice none 0 0,.slice none 0 0,.slice none 0 0,.slice none 0 0,.int .i64 0,.int .i64 0] 29,am g1 [.slice Ap fs.length cp] 24]) ((m,k),ga) (⟨⟨hR,hk⟩,hr⟩) ⟨rfl,rfl,rfl,rfl,trivial⟩ me ?_)
  rintro⟨⟨x,n⟩,q⟩ hq
  try dsimp only
  obtain⟨⟨hRx,hn0,hn1⟩,hqr⟩:(dr fs x∧0≤n∧n≤10000)∧gH fs x n=r:=hq
  obtain⟨isx,itx⟩:=ns hRx
  have hst:=hRx.st
  refine ac<|ac<|aa<|rn 1 [2,3,4,6,11] rfl<|af (ai fc aq rfl rfl (by rfl)) rfl rfl ?_
  refine rn 1 [2,3,4,6,13] rfl<|ae<|ay rfl (fun h2=>?_) (fun h2=>?_)
  ·have h2:x.status<2:=h2
   have hh:¬eX x:=(not_congr (pb hRx)).2 (by omega)
   have hne:x.frames≠[]:=fun e=>hh (.inl e)
   have hcp:=ia (be fs x).c
   have hcl:=uS (be fs x).c
   refine az (au ?_)
   refine aP<|ac<|aa<|af (aL (vs:= [_]) fc bU bI rfl rfl (by rfl) rfl) rfl rfl ?_
   refine af (aL (vs:= [_,_,_,_,_,_]) fc aR aA rfl rfl (by rfl) rfl) rfl rfl ?_
   refine ag (br rfl rfl rfl Tryz.call76 (fun w hw=>sa Ap cp fs q x w (hw.ro hs) (dE (m:=x) hw fc fc fc fc rfl rfl rfl rfl isx itx) hF hRx hne)) rfl rfl (fun _ _=>?_)
   refine af (gh (wX _ _) rfl rfl) rfl rfl<|ag (br rfl rfl rfl Tryz.call32 (fun w hw=>oy _ w)) rfl rfl (fun _ _=>?_)
   refine rn 1 [2,3,4,6,8] rfl<|ae<|ac<|ac<|aa<|rn 3 [2,3,4,6,8,21] rfl<|ae<|ay rfl (fun hc=>?_) (fun hc=>?_)
   ·have hc:n<dA (be fs x).c:=hc
    have er:(x,n)=r:=by rw[←hqr,kW,if_neg hh,if_pos hc]
    refine bY (aU (ue rfl (aU (cz ?_))))
    refine aY ((x,n),q) (er) ⟨rfl,rfl,rfl,trivial⟩ me
   have hc:¬n<dA (be fs x).c:=hc
   obtain⟨y,hy⟩:∃y,dy fs x=y:=⟨_,rfl⟩
   have hRy:dr fs y:=hy▸jy hF hRx
   refine az (au ?_)
   refine ac<|aa<|rn 2 [3,4,6,22,23] rfl<|af (bt rfl rfl rfl (by omega)) rfl rfl<|rn 1 [2,3,4,6] rfl<|ae<|ac<|aa<|af (aL (vs:= [_]) fc bU bI rfl rfl (by rfl) rfl) rfl rfl ?_
   refine af (aL (vs:= [_,_,_,_,_,_]) fc aR aA rfl rfl (by rfl) rfl) rfl rfl ?_
   refine ag (cI rfl rfl rfl Tryz.call25 (fun w hw=>ox Ap cp fs q x y hy w (hw.ro hs) (dE (m:=x) hw fc fc fc fc rfl rfl rfl rfl isx itx) hF hRx)) rfl rfl (fun gy _=>?_)
   refine ag (aG _ fc aA rfl rfl rfl rfl rfl (by rfl) rfl (by rfl)) rfl rfl (fun _ _=>?_)
   refine ae<|ac<|aa<|rn 1 [2,3,4,6,28] rfl<|af (ai fc aq rfl rfl (by rfl)) rfl rfl ?_
   refine rn 1 [2,3,4,6,30] rfl<|ae<|bZ rfl (fun h0=>?_) (fun h0=>?_)
   ·have h0:¬y.status=0:=h0
    have er:(y,n - dA (be fs x).c)=r:=by rw[←hqr,kW,if_neg hh,if_neg hc,hy,if_neg h0]
    refine bY (ue rfl (aU (cz ?_)))
    refine aY ((y,n - dA (be fs x).c),gy) (er) ⟨rfl,rfl,rfl,trivial⟩ me
   have h0:y.status=0:=h0
   refine az (aI ?_)
   refine jR ((y,n - dA (be fs x).c),gy) (⟨⟨hRy,by show 0≤n - _;omega,by show n - _≤_;omega⟩,by rw[←hqr,kW x,if_neg hh,if_neg hc,hy,if_pos h0]⟩) (by show (n - _).toNat<n.toNat;omega) ⟨rfl,rfl,rfl,rfl,trivial⟩ me
  have h2:¬x.status<2:=h2
  have er:(x,n)=r:=by rw[←hqr];exact(yj ((pb hRx).2 (by omega)) n).symm
  refine bY (aU (aU (cz ?_)))
  refine aY ((x,n),q) (er) ⟨rfl,rfl,rfl,trivial⟩ me
 rintro⟨⟨x,n⟩,q⟩ he
 have he:(x,n)=r:=he
 subst he
 try dsimp only
 refine ac<|aa<|af (aL (vs:= [_,_,_,_,_,_]) fc aR aA rfl rfl (by rfl) rfl) rfl rfl ?_
 refine rn 1 [6,31,32] rfl<|ag (aG _ fc aA rfl rfl rfl rfl rfl (by rfl) rfl (by rfl)) rfl rfl (fun _ _=>?_)
 refine rn 1 [6,7] rfl<|ae<|av<|bF Tryz.results31 (du (cs:= [_,_,_,_,_,_]) fc aR aA rfl) (ap rfl) ?_
 intro w hw
 exact⟨q,trivial,rfl,hw.msub ms⟩
end
section
theorem sj {fs:List aE} {m:aO} (h:¬dT fs=0):dm fs m=dT fs:=by unfold dm;rw[if_pos h]
theorem Ay {fs:List aE} {m:aO} (h:dT fs=0):dm fs m=iY fs m:=by unfold dm;rw[if_neg (fun h'=>h' h)]
theorem Dx {fs:List aE} (hF:ew fs):(ar fs 0).locals.length≤1000:=Nat.le_trans (((gi hF.p (ix hF)).1.op 0 (gi hF.p (ix hF)).2).par _ (ix hF)).2 (by decide)
set_option maxRecDepth 100000 in
set_option maxHeartbeats 4000000 in
theorem o9 (Ap:Option Addr) (cp:Nat) (fs:List aE) (a:MA) (m:aO) (w:World) (hs:Sl w (.slice Ap fs.length cp) fs) (hm:d9 w.heap.size w a m) (hfit:iE m.frames) :
  Calls Tryz.prog 4 #[.agg #[.slice Ap fs.length cp],.agg #[.slice a.Af m.frames.length a.cf,.slice a.Ab m.blocks.length a.cb,.slice a.Ai m.inn.length a.ci,.slice a.Ao m.out.length a.co,.int .i64 m.status,.int .i64 m.trap]] w fun e w'=>e= .returned (.bool true)∧Below w.heap.size w w':=by
 obtain⟨ms,hms⟩:∃ms,iW fs=ms:=⟨_,rfl⟩
 obtain⟨mt,hmt⟩:∃mt,jz fs m=mt:=⟨_,rfl⟩
 refine enter Tryz.func4 rfl Tryz.ntmps4 rfl ?_
 refine ac<|aa<|ag (bH rfl rfl rfl) rfl rfl (fun g1 _=>?_)
 refine ag (bH rfl rfl rfl) rfl rfl (fun g2 _=>?_)
 refine rn 1 [2,3] rfl<|ae<|ac<|aa<|af (aL (vs:= [_]) fc bU bI rfl rfl (by rfl) rfl) rfl rfl ?_
 refine ag (cI rfl rfl rfl Cx (fun w hw=>pH Ap cp fs ms hms w (hw.ro hs))) rfl rfl (fun ga _=>?_)
 refine rn 3 [2,3,16,17] rfl<|ag (aZ a6 rfl rfl) rfl rfl (fun g3 _=>?_)
 refine ag (aG _ fc aA rfl rfl rfl rfl rfl (by rfl) rfl (by rfl)) rfl rfl (fun _ _=>?_)
 refine rn 1 [2,3,5,6] rfl<|ae<|ac<|aa<|af (aL (vs:= [_]) fc bU bI rfl rfl (by rfl) rfl) rfl rfl ?_
 refine af (aL (vs:= [_,_,_,_,_,_]) fc aR aA rfl rfl (by rfl) rfl) rfl rfl ?_
 refine ag (cI rfl rfl rfl ot (fun w hw=>nB Ap cp fs a m mt hmt w (hw.ro hs) (hm.ro hw) hfit)) rfl rfl (fun gb _=>?_)
 refine rn 3 [2,3,5,6,22,23] rfl<|ag (aZ a6 rfl rfl) rfl rfl (fun g4 _=>?_)
 refine ag (aG _ fc aA rfl rfl rfl rfl rfl (by rfl) rfl (by rfl)) rfl rfl (fun _ _=>?_)
 refine rn 1 [2,3,5,6,7,8] rfl<|ae<|ac<|aa<|af (aL (vs:= [_]) fc bU bI rfl rfl (by rfl) rfl) rfl rfl ?_
 refine ag (br rfl rfl rfl Tryz.call16 (fun w hw=>mb Ap cp fs w (hw.ro hs))) rfl rfl (fun _ _=>?_)
 refine rn 1 [2,3,5,6,7,8,9] rfl<|ae<|ac<|aa<|rn 2 [2,3,5,6,7,8,9,10] rfl<|ae<|ac<|ac<|aa<|rn 2 [2,3,5,6,7,8,9,10,28] rfl<|ae ?_
 have hI1:aX ms.status∧aX ms.trap:=by
  rw[←hms]
  unfold iW
  split
  ·exact⟨by show aX 0;decide,by show aX 0;decide⟩
  exact⟨by show aX 0;decide,by show aX 0;decide⟩
 have hI2:aX mt.status∧aX mt.trap:=by
  rw[←hmt]
  unfold jz
  split
  ·rename_i h
   obtain⟨hF,hR⟩:=mn h
   exact ns (jy hF hR)
  exact⟨by show aX 0;decide,by show aX 0;decide⟩
 refine ay rfl (fun hp=>?_) (fun hp=>?_)
 ·have hp:dT fs=0:=hp
  have hF:=mV hp
  refine aa<|af (aL (vs:= [_]) fc bU bI rfl rfl (by rfl) rfl) rfl rfl ?_
  refine af (aL (vs:= [_,_,_,_,_,_]) fc aR aA rfl rfl (by rfl) rfl) rfl rfl ?_
  refine ag (br rfl rfl rfl Tryz.call19 (fun w hw=>px a m Ap cp fs w (hw.ro hs) (hm.ro hw) hF hfit (iY fs m) rfl)) rfl rfl (fun _ _=>?_)
  refine rn 1 [2,3,5,6,7,8,9,10] rfl<|ae<|ac<|aa<|ag (aZ a6 rfl rfl) rfl rfl (fun g5 _=>?_)
  refine ag (aZ a6 rfl rfl) rfl rfl (fun g6 _=>?_)
  refine ae<|ac<|ac<|aa<|rn 2 [2,3,5,6,7,8,9,10,11,12,33] rfl<|ae<|cJ (t:=10) (v':= .int .i64 (dm fs m)) rfl (by rw[Ay hp]) ?_
  refine ay rfl (fun q1=>?_) (fun q1=>?_)
  ·refine aa<|af (aL (vs:= [_]) fc bU bI rfl rfl (by rfl) rfl) rfl rfl ?_
   refine ag (cI rfl rfl rfl Tryz.call24 (fun w hw=>va Ap cp fs w (hw.ro hs) (ix hF) (Dx hF))) rfl rfl (fun gc _=>?_)
   refine ag (aG _ fc aA rfl rfl rfl rfl rfl (by rfl) rfl (by rfl)) rfl rfl (fun _ _=>?_)
   refine ae<|ac<|ac<|aa<|rn 2 [2,3,5,6,7,8,9,10,11,12,37] rfl<|ae<|ay rfl (fun q2=>?_) (fun q2=>?_)
   ·have q2:dm fs m=0:=q2
    obtain⟨_,hR⟩:=mn q2
    have hmt2:dy fs m=mt:=by rw[←hmt];unfold jz;rw[if_pos q2]
    refine aa<|af (aL (vs:= [_]) fc bU bI rfl rfl (by rfl) rfl) rfl rfl ?_
    refine af (aL (vs:= [_,_,_,_,_,_]) fc aR aA rfl rfl (by rfl) rfl) rfl rfl ?_
    refine ag (cI rfl rfl rfl Tryz.call25 (fun w hw=>ox Ap cp fs a m mt hmt2 w (hw.ro hs) (hm.ro hw) hF hR)) rfl rfl (fun gd _=>?_)
    refine ag (aG _ fc aA rfl rfl rfl rfl rfl (by rfl) rfl (by rfl)) rfl rfl (fun _ _=>?_)
    refine ae<|ac<|aa<|ag (br rfl rfl rfl Eq (fun w hw=>jj w)) rfl rfl (fun _ _=>?_)
    refine rn 1 [2,3,5,6,7,8,9,10,11,12,42] rfl<|af (aL (vs:= [_]) fc bU bI rfl rfl (by rfl) rfl) rfl rfl ?_
    refine af (aL (vs:= [_,_,_,_,_,_]) fc aR aA rfl rfl (by rfl) rfl) rfl rfl ?_
    refine ag (br rfl rfl rfl rj (fun w hw=>iL Ap cp fs a m w (hw.ro hs) (hm.ro hw) hfit)) rfl rfl (fun _ _=>?_)
    refine rn 4 [5,6,7,8,9,10,11,12,49] rfl<|bG (t:=49) (v':= .bool true) rfl (congrArg Value.bool (decide_eq_true rfl)) ?_
    refine af (aL (vs:= [_,_,_,_,_,_]) fc aR aA rfl rfl (by rfl) rfl) rfl rfl ?_
    refine rn 2 [7,8,10,11,12,49,50,51,52] rfl<|af (aL (vs:= [_,_,_,_,_,_]) fc aR aA rfl rfl (by rfl) rfl) rfl rfl ?_
    refine ag (br rfl rfl rfl ou (fun w hw=>fL ga gc ms (ek fs) (dT fs) (by rw[←hms,if_neg (fun h=>h hp)];unfold iW;rw[if_pos hp]) w (dE (m:=ms) hw fc fc fc fc rfl rfl rfl rfl hI1.1 hI1.2) (dE (m:=ek fs) hw fc fc fc fc rfl rfl rfl rfl (by show aX 0;decide) (by show aX 0;decide)))) rfl rfl (fun _ _=>?_)
    refine rn 2 [7,8,10,12,56] rfl<|bG (t:=56) (v':= .bool true) rfl (rfl) ?_
    refine af (aL (vs:= [_,_,_,_,_,_]) fc aR aA rfl rfl (by rfl) rfl) rfl rfl ?_
    refine rn 2 [12,56,57,58,59] rfl<|af (aL (vs:= [_,_,_,_,_,_]) fc aR aA rfl rfl (by rfl) rfl) rfl rfl ?_
    refine ag (br rfl rfl rfl ou (fun w hw=>fL gb gd mt mt (dm fs m) (by rw[if_neg (fun h=>h q2)]) w (dE (m:=mt) hw fc fc fc fc rfl rfl rfl rfl hI2.1 hI2.2) (dE (m:=mt) hw fc fc fc fc rfl rfl rfl rfl hI2.1 hI2.2))) rfl rfl (fun _ _=>?_)
    refine rn 2 [4] rfl<|ae<|av<|aB DI (ap rfl) ?_
    intro w hw
    exact⟨rfl,hw.below⟩
   have q2:¬dm fs m=0:=q2
   refine az (au ?_)
   refine ac<|aa<|ag (br rfl rfl rfl Eq (fun w hw=>jj w)) rfl rfl (fun _ _=>?_)
   refine rn 1 [2,3,5,6,7,8,9,10,11,12,42] rfl<|af (aL (vs:= [_]) fc bU bI rfl rfl (by rfl) rfl) rfl rfl ?_
   refine af (aL (vs:= [_,_,_,_,_,_]) fc aR aA rfl rfl (by rfl) rfl) rfl rfl ?_
   refine ag (br rfl rfl rfl rj (fun w hw=>iL Ap cp fs a m w (hw.ro hs) (hm.ro hw) hfit)) rfl rfl (fun _ _=>?_)
   refine rn 4 [5,6,7,8,9,10,11,12,49] rfl<|bG (t:=49) (v':= .bool true) rfl (congrArg Value.bool (decide_eq_true rfl)) ?_
   refine af (aL (vs:= [_,_,_,_,_,_]) fc aR aA rfl rfl (by rfl) rfl) rfl rfl ?_
   refine rn 2 [7,8,10,11,12,49,50,51,52] rfl<|af (aL (vs:= [_,_,_,_,_,_]) fc aR aA rfl rfl (by rfl) rfl) rfl rfl ?_
   refine ag (br rfl rfl rfl ou (fun w hw=>fL ga gc ms (ek fs) (dT fs) (by rw[←hms,if_neg (fun h=>h hp)];unfold iW;rw[if_pos hp]) w (dE (m:=ms) hw fc fc fc fc rfl rfl rfl rfl hI1.1 hI1.2) (dE (m:=ek fs) hw fc fc fc fc rfl rfl rfl rfl (by show aX 0;decide) (by show aX 0;decide)))) rfl rfl (fun _ _=>?_)
   refine rn 2 [7,8,10,12,56] rfl<|bG (t:=56) (v':= .bool true) rfl (rfl) ?_
   refine af (aL (vs:= [_,_,_,_,_,_]) fc aR aA rfl rfl (by rfl) rfl) rfl rfl ?_
   refine rn 2 [12,56,57,58,59] rfl<|af (aL (vs:= [_,_,_,_,_,_]) fc aR aA rfl rfl (by rfl) rfl) rfl rfl ?_
   refine ag (br rfl rfl rfl ou (fun w hw=>fL gb ⟨none,0,none,0,none,0,none,0⟩ mt default (dm fs m) (by rw[if_pos q2,←hmt];unfold jz;rw[if_neg q2]) w (dE (m:=mt) hw fc fc fc fc rfl rfl rfl rfl hI2.1 hI2.2) mO)) rfl rfl (fun _ _=>?_)
   refine rn 2 [4] rfl<|ae<|av<|aB DI (ap rfl) ?_
   intro w hw
   exact⟨rfl,hw.below⟩
  exact absurd hp q1
 have hp:¬dT fs=0:=hp
 refine az (au ?_)
 refine ac<|aa<|ag (aZ a6 rfl rfl) rfl rfl (fun g7 _=>?_)
 refine ag (aZ a6 rfl rfl) rfl rfl (fun g8 _=>?_)
 refine ae<|ac<|ac<|aa<|rn 2 [2,3,5,6,7,8,9,10,11,12,33] rfl<|ae<|cJ (t:=10) (v':= .int .i64 (dm fs m)) rfl (by rw[sj hp]) ?_
 refine ay rfl (fun q1=>?_) (fun q1=>?_)
 ·exact absurd q1 hp
 refine az (au ?_)
 refine ac<|ac<|aa<|rn 2 [2,3,5,6,7,8,9,10,11,12,37] rfl<|ae<|ay rfl (fun q2=>?_) (fun q2=>?_)
 ·exact absurd ((sj (m:=m) hp).symm.trans q2) hp
 have q2:¬dm fs m=0:=q2
 refine az (au ?_)
 refine ac<|aa<|ag (br rfl rfl rfl Eq (fun w hw=>jj w)) rfl rfl (fun _ _=>?_)
 refine rn 1 [2,3,5,6,7,8,9,10,11,12,42] rfl<|af (aL (vs:= [_]) fc bU bI rfl rfl (by rfl) rfl) rfl rfl ?_
 refine af (aL (vs:= [_,_,_,_,_,_]) fc aR aA rfl rfl (by rfl) rfl) rfl rfl ?_
 refine ag (br rfl rfl rfl rj (fun w hw=>iL Ap cp fs a m w (hw.ro hs) (hm.ro hw) hfit)) rfl rfl (fun _ _=>?_)
 refine rn 4 [5,6,7,8,9,10,11,12,49] rfl<|bG (t:=49) (v':= .bool true) rfl (congrArg Value.bool (decide_eq_true rfl)) ?_
 refine af (aL (vs:= [_,_,_,_,_,_]) fc aR aA rfl rfl (by rfl) rfl) rfl rfl ?_
 refine rn 2 [7,8,10,11,12,49,50,51,52] rfl<|af (aL (vs:= [_,_,_,_,_,_]) fc aR aA rfl rfl (by rfl) rfl) rfl rfl ?_
 refine ag (br rfl rfl rfl ou (fun w hw=>fL ga ⟨none,0,none,0,none,0,none,0⟩ ms default (dT fs) (by rw[if_pos hp,←hms];unfold iW;rw[if_neg hp]) w (dE (m:=ms) hw fc fc fc fc rfl rfl rfl rfl hI1.1 hI1.2) mO)) rfl rfl (fun _ _=>?_)
 refine rn 2 [7,8,10,12,56] rfl<|bG (t:=56) (v':= .bool true) rfl (rfl) ?_
 refine af (aL (vs:= [_,_,_,_,_,_]) fc aR aA rfl rfl (by rfl) rfl) rfl rfl ?_
 refine rn 2 [12,56,57,58,59] rfl<|af (aL (vs:= [_,_,_,_,_,_]) fc aR aA rfl rfl (by rfl) rfl) rfl rfl ?_
 refine ag (br rfl rfl rfl ou (fun w hw=>fL gb ⟨none,0,none,0,none,0,none,0⟩ mt default (dm fs m) (by rw[if_pos q2,←hmt];unfold jz;rw[if_neg q2]) w (dE (m:=mt) hw fc fc fc fc rfl rfl rfl rfl hI2.1 hI2.2) mO)) rfl rfl (fun _ _=>?_)
 refine rn 2 [4] rfl<|ae<|av<|aB DI (ap rfl) ?_
 intro w hw
 exact⟨rfl,hw.below⟩
end
section
theorem oU {fs:List aE} {m:aO} {k:Int} (h:¬eG fs m k=0):lb fs m k=(default,0):=by unfold lb;rw[if_neg h]
theorem zS {fs:List aE} {m:aO} {k:Int} :(lb fs m k).1=if eG fs m k≠0 then default else (lb fs m k).1:=by
 split
 ·rename_i h
  rw[oU h]
 rfl
theorem un {fs:List aE} {m:aO} {k:Int} :eG fs m k=if dm fs m=0∧(k<0∨10000<k) then 3 else dm fs m:=by
 unfold eG
 by_cases h:dm fs m=0
 ·rw[if_neg (fun h'=>h' h)]
  by_cases h2:k<0∨10000<k
  ·rw[if_pos h2,if_pos ⟨h,h2⟩]
  rw[if_neg h2,if_neg (fun h'=>h2 h'.2),h]
 rw[if_pos h,if_neg (fun h'=>h h'.1)]
set_option maxRecDepth 100000 in
set_option maxHeartbeats 4000000 in
theorem qC (Ap:Option Addr) (cp:Nat) (fs:List aE) (a:MA) (m:aO) (k:Int) (o:bT) (w:World) (hs:Sl w (.slice Ap fs.length cp) fs) (hm:d9 w.heap.size w a m) (hfit:iE m.frames) :
  Calls Tryz.prog 5 #[.agg #[.slice Ap fs.length cp],.agg #[.slice a.Af m.frames.length a.cf,.slice a.Ab m.blocks.length a.cb,.slice a.Ai m.inn.length a.ci,.slice a.Ao m.out.length a.co,.int .i64 m.status,.int .i64 m.trap],.int .i64 k,.agg #[.int .i64 o.c,.int .i64 o.a]] w fun e w'=>e= .returned (.bool true)∧Below w.heap.size w w':=by
 obtain⟨r,hr⟩:∃r,lb fs m k=r:=⟨_,rfl⟩
 have hI:aX r.1.status∧aX r.1.trap:=by
  rw[←hr]
  by_cases h:eG fs m k=0
  ·obtain⟨h1,h2⟩:=qO h
   obtain⟨hF,hR⟩:=mn h1
   rw[um h1 h2]
   exact ns (wB hF m k hR h2.1).right
  rw[oU h]
  exact⟨by show aX 0;decide,by show aX 0;decide⟩
 refine enter Tryz.func5 rfl Tryz.ntmps5 rfl ?_
 refine ac<|aa<|ag (bH rfl rfl rfl) rfl rfl (fun g1 _=>?_)
 refine ag (bH rfl rfl rfl) rfl rfl (fun g2 _=>?_)
 refine ag (bH rfl rfl rfl) rfl rfl (fun g3 _=>?_)
 refine rn 1 [2,4,5,7] rfl<|ae<|ac<|aa<|af (aL (vs:= [_]) fc bU bI rfl rfl (by rfl) rfl) rfl rfl ?_
 refine af (aL (vs:= [_,_,_,_,_,_]) fc aR aA rfl rfl (by rfl) rfl) rfl rfl ?_
 refine rn 1 [2,4,5,7,20,21,22] rfl<|ag (cI rfl rfl rfl oq (fun w hw=>o7 Ap cp fs a m k r hr w (hw.ro hs) (hm.ro hw) hfit)) rfl rfl (fun ga _=>?_)
 refine rn 4 [2,4,5,7,24,25,26] rfl<|ag (aZ a6 rfl rfl) rfl rfl (fun g4 _=>?_)
 refine ag (aG _ fc aA rfl rfl rfl rfl rfl (by rfl) rfl (by rfl)) rfl rfl (fun _ _=>?_)
 refine rn 2 [2,4,5,7,9,10,11] rfl<|ae<|ac<|aa<|af (aL (vs:= [_,_]) fc eS b8 rfl rfl (by rfl) rfl) rfl rfl ?_
 refine ag (br rfl rfl rfl Tryz.call29 (fun w hw=>sK o w)) rfl rfl (fun _ _=>?_)
 refine rn 5 [2,4,5,7,9,10,11,12,13] rfl<|ae<|dS (fun _:Unit=>True) (fun _=> [(2,.int .i64 k),(4,.pointer (some ⟨g1,0,none⟩)),(5,.pointer (some ⟨g2,0,none⟩)),(7,.pointer (some ⟨g3,0,none⟩)),(9,.pointer (some ⟨g4,0,none⟩)),(10,.int .i64 r.2),(11,.int .i64 (eG fs m k)),(12,.int .i64 (iR o)),(13,.int .i64 (df o)),(14,.int .i64 (dm fs m)),(15,.int .i64 (df o))]) (fun _=> [am g1 [.slice Ap fs.length cp] 24,am g2 [.slice a.Af m.frames.length a.cf,.slice a.Ab m.blocks.length a.cb,.slice a.Ai m.inn.length a.ci,.slice a.Ao m.out.length a.co,.int .i64 m.status,.int .i64 m.trap] 29,am g3 [.int .i64 o.c,.int .i64 o.a] 49,am g4 [.slice ga.Af r.1.frames.length ga.cf,.slice ga.Ab r.1.blocks.length ga.cb,.slice ga.Ai r.1.inn.length ga.ci,.slice ga.Ao r.1.out.length ga.co,.int .i64 r.1.status,.int .i64 r.1.trap] 29,ak (.slice ga.Af r.1.frames.length ga.cf) r.1.frames,ak (.slice ga.Ab r.1.blocks.length ga.cb) r.1.blocks,ak (.slice ga.Ai r.1.inn.length ga.ci) r.1.inn,ak (.slice ga.Ao r.1.out.length ga.co) r.1.out]) ?_ ?_
 ·refine bN (.still 0 (.still 1 (.still 3 (.pick 2 (.pick 4 (.calm 5 (.calm 6 .done)) .stop) .stop)))) [4,5,6] rfl (by kernel_rfl) (by kernel_rfl) ?_
  refine an rfl (aL (vs:= [_]) fc bU bI rfl rfl (by rfl) rfl) rfl rfl ha ?_
  refine an rfl (aL (vs:= [_,_,_,_,_,_]) fc aR aA rfl rfl (by rfl) rfl) rfl rfl ha ?_
  refine an rfl (aL (vs:= [_,_]) fc eS b8 rfl rfl (by rfl) rfl) rfl rfl ha ?_
  refine aC rfl (br rfl rfl rfl Tryz.call15 (fun w hw=>wE Ap cp fs a m w (hw.ro hs) (hm.ro hw) hfit)) rfl rfl (.inr fun _=>ha) (fun _ _=>?_) ax
  refine aC rfl (br rfl rfl rfl Tryz.call30 (fun w hw=>nw o w)) rfl rfl (.inl rfl) (fun _ _=>?_) ax
  refine dF 2 [2,4,5,7,9,10,11,12,13,14,15] rfl<|cd<|aY () (trivial) ⟨rfl,rfl,rfl,rfl,rfl,rfl,rfl,rfl,rfl,rfl,rfl,trivial⟩ me
 rintro⟨⟩ _
 try dsimp only
 refine dS (fun _:Unit=>True) (fun _=> [(2,.int .i64 k),(4,.pointer (some ⟨g1,0,none⟩)),(5,.pointer (some ⟨g2,0,none⟩)),(7,.pointer (some ⟨g3,0,none⟩)),(9,.pointer (some ⟨g4,0,none⟩)),(10,.int .i64 r.2),(11,.int .i64 (eG fs m k)),(12,.int .i64 (iR o)),(13,.int .i64 (df o)),(14,.int .i64 (eG fs m k)),(15,.int .i64 (df o))]) (fun _=> [am g1 [.slice Ap fs.length cp] 24,am g2 [.slice a.Af m.frames.length a.cf,.slice a.Ab m.blocks.length a.cb,.slice a.Ai m.inn.length a.ci,.slice a.Ao m.out.length a.co,.int .i64 m.status,.int .i64 m.trap] 29,am g3 [.int .i64 o.c,.int .i64 o.a] 49,am g4 [.slice ga.Af r.1.frames.length ga.cf,.slice ga.Ab r.1.blocks.length ga.cb,.slice ga.Ai r.1.inn.length ga.ci,.slice ga.Ao r.1.out.length ga.co,.int .i64 r.1.status,.int .i64 r.1.trap] 29,ak (.slice ga.Af r.1.frames.length ga.cf) r.1.frames,ak (.slice ga.Ab r.1.blocks.length ga.cb) r.1.blocks,ak (.slice ga.Ai r.1.inn.length ga.ci) r.1.inn,ak (.slice ga.Ao r.1.out.length ga.co) r.1.out]) ?_ ?_
 ·refine ac<|aa<|rn 3 [2,4,5,7,9,10,11,12,13,14,15,39] rfl<|jg 7 rfl [(2,_),(4,_),(5,_),(7,_),(9,_),(10,_),(11,_),(12,_),(13,_),(14,_),(15,_)] [(46,.bool (decide (dm fs m=0∧(k<0∨10000<k))))] ⟨rfl,rfl,rfl,rfl,rfl,rfl,rfl,rfl,rfl,rfl,rfl,trivial⟩ (fun K=>?_) ?_
  ·refine bK (t:=39) rfl (fun q1=>?_) (fun q1=>?_)
   ·have q1:=of_decide_eq_true q1
    refine rn 3 [2,4,5,7,9,10,11,12,13,14,15,39,42] rfl<|bK (t:=42) rfl (fun q2=>?_) (fun q2=>?_)
    ·have q2:=of_decide_eq_true q2
     refine rn 4 [2,4,5,7,9,10,11,12,13,14,15,46] rfl<|bG (t:=46) (v':= .bool (decide (dm fs m=0∧(k<0∨10000<k)))) rfl (congrArg Value.bool (decide_eq_true ⟨q1,.inl q2⟩).symm) ?_
     exact eK K ⟨rfl,rfl,rfl,rfl,rfl,rfl,rfl,rfl,rfl,rfl,rfl,rfl,trivial⟩
    have q2:=of_decide_eq_false q2
    refine rn 4 [2,4,5,7,9,10,11,12,13,14,15,46] rfl<|bG (t:=46) (v':= .bool (decide (dm fs m=0∧(k<0∨10000<k)))) rfl (congrArg Value.bool (decide_eq_decide.2 ⟨fun h=>⟨q1,.inr h⟩,fun h=>h.2.resolve_left q2⟩)) ?_
    exact eK K ⟨rfl,rfl,rfl,rfl,rfl,rfl,rfl,rfl,rfl,rfl,rfl,rfl,trivial⟩
   have q1:=of_decide_eq_false q1
   refine rn 7 [2,4,5,7,9,10,11,12,13,14,15,46] rfl<|bG (t:=46) (v':= .bool (decide (dm fs m=0∧(k<0∨10000<k)))) rfl (congrArg Value.bool (decide_eq_false (fun h=>q1 h.1)).symm) ?_
   exact eK K ⟨rfl,rfl,rfl,rfl,rfl,rfl,rfl,rfl,rfl,rfl,rfl,rfl,trivial⟩
  refine ae<|ay rfl (fun q=>?_) (fun q=>?_)
  ·refine aa<|rn 1 [2,4,5,7,9,10,11,12,13,14,15] rfl<|bG (t:=14) (v':= .int .i64 (eG fs m k)) rfl (by rw[un,if_pos q]) ?_
   refine gM () (trivial) ⟨rfl,rfl,rfl,rfl,rfl,rfl,rfl,rfl,rfl,rfl,rfl,trivial⟩ me
  refine cJ (t:=14) (v':= .int .i64 (eG fs m k)) rfl (by rw[un,if_neg q]) ?_
  refine az<|aY () (trivial) ⟨rfl,rfl,rfl,rfl,rfl,rfl,rfl,rfl,rfl,rfl,rfl,trivial⟩ me
 rintro⟨⟩ _
 try dsimp only
 refine ac<|aa<|ag (aZ a6 rfl rfl) rfl rfl (fun g5 _=>?_)
 refine ae<|ac<|aa<|rn 2 [2,4,5,7,9,10,11,12,13,14,15,16,17,18] rfl<|ae<|dS (fun g:MA=>True) (fun g=> [(7,.pointer (some ⟨g3,0,none⟩)),(9,.pointer (some ⟨g4,0,none⟩)),(10,.int .i64 r.2),(11,.int .i64 (eG fs m k)),(12,.int .i64 (iR o)),(13,.int .i64 (df o)),(14,.int .i64 (eG fs m k)),(15,.int .i64 (df o)),(16,.pointer (some ⟨g5,0,none⟩)),(17,.int .i64 r.2),(18,.int .i64 0)]) (fun g=> [am g5 [.slice g.Af r.1.frames.length g.cf,.slice g.Ab r.1.blocks.length g.cb,.slice g.Ai r.1.inn.length g.ci,.slice g.Ao r.1.out.length g.co,.int .i64 r.1.status,.int .i64 r.1.trap] 29,ak (.slice g.Af r.1.frames.length g.cf) r.1.frames,ak (.slice g.Ab r.1.blocks.length g.cb) r.1.blocks,ak (.slice g.Ai r.1.inn.length g.ci) r.1.inn,ak (.slice g.Ao r.1.out.length g.co) r.1.out,am g1 [.slice Ap fs.length cp] 24,am g2 [.slice a.Af m.frames.length a.cf,.slice a.Ab m.blocks.length a.cb,.slice a.Ai m.inn.length a.ci,.slice a.Ao m.out.length a.co,.int .i64 m.status,.int .i64 m.trap] 29,am g3 [.int .i64 o.c,.int .i64 o.a] 49,am g4 [.slice ga.Af r.1.frames.length ga.cf,.slice ga.Ab r.1.blocks.length ga.cb,.slice ga.Ai r.1.inn.length ga.ci,.slice ga.Ao r.1.out.length ga.co,.int .i64 r.1.status,.int .i64 r.1.trap] 29,ak (.slice ga.Af r.1.frames.length ga.cf) r.1.frames,ak (.slice ga.Ab r.1.blocks.length ga.cb) r.1.blocks,ak (.slice ga.Ai r.1.inn.length ga.ci) r.1.inn,ak (.slice ga.Ao r.1.out.length ga.co) r.1.out]) ?_ ?_
 ·refine ac<|aa<|rn 2 [2,4,5,7,9,10,11,12,13,14,15,16,17,18,48] rfl<|ae<|ay rfl (fun q3=>?_) (fun q3=>?_)
  ·have q3:eG fs m k=0:=q3
   obtain⟨h1,h2⟩:=qO q3
   obtain⟨hF,hR⟩:=mn h1
   have hr2:gH fs m k=r:=by rw[←hr,um h1 h2]
   refine aa<|af (aL (vs:= [_]) fc bU bI rfl rfl (by rfl) rfl) rfl rfl ?_
   refine af (aL (vs:= [_,_,_,_,_,_]) fc aR aA rfl rfl (by rfl) rfl) rfl rfl ?_
   refine rn 1 [7,9,10,11,12,13,14,15,16,18,50,51,52] rfl<|ag (cI rfl rfl rfl Tryz.call31 (fun w hw=>vc Ap cp fs a m k r hr2 w (hw.ro hs) (hm.ro hw) hF hR h2)) rfl rfl (fun gw _=>?_)
   refine rn 3 [7,9,10,11,12,13,14,15,16,18,54,55] rfl<|ag (aG _ fc aA rfl rfl rfl rfl rfl (by rfl) rfl (by rfl)) rfl rfl (fun _ _=>?_)
   refine rn 1 [7,9,10,11,12,13,14,15,16,17,18] rfl<|gM gw (trivial) ⟨rfl,rfl,rfl,rfl,rfl,rfl,rfl,rfl,rfl,rfl,rfl,trivial⟩ me
  have q3:¬eG fs m k=0:=q3
  obtain rfl:(default,0)=r:=by rw[←hr,oU q3]
  refine az<|aY ⟨none,0,none,0,none,0,none,0⟩ (trivial) ⟨rfl,rfl,rfl,rfl,rfl,rfl,rfl,rfl,rfl,rfl,rfl,trivial⟩ (fun w h=>(j6 h).msub ms)
 rintro gw _
 try dsimp only
 refine dS (fun _:Unit=>True) (fun _=> [(9,.pointer (some ⟨g4,0,none⟩)),(10,.int .i64 r.2),(11,.int .i64 (eG fs m k)),(12,.int .i64 (iR o)),(13,.int .i64 (df o)),(14,.int .i64 (eG fs m k)),(15,.int .i64 (df o)),(16,.pointer (some ⟨g5,0,none⟩)),(17,.int .i64 r.2),(18,.int .i64 (iR o))]) (fun _=> [am g5 [.slice gw.Af r.1.frames.length gw.cf,.slice gw.Ab r.1.blocks.length gw.cb,.slice gw.Ai r.1.inn.length gw.ci,.slice gw.Ao r.1.out.length gw.co,.int .i64 r.1.status,.int .i64 r.1.trap] 29,ak (.slice gw.Af r.1.frames.length gw.cf) r.1.frames,ak (.slice gw.Ab r.1.blocks.length gw.cb) r.1.blocks,ak (.slice gw.Ai r.1.inn.length gw.ci) r.1.inn,ak (.slice gw.Ao r.1.out.length gw.co) r.1.out,am g1 [.slice Ap fs.length cp] 24,am g2 [.slice a.Af m.frames.length a.cf,.slice a.Ab m.blocks.length a.cb,.slice a.Ai m.inn.length a.ci,.slice a.Ao m.out.length a.co,.int .i64 m.status,.int .i64 m.trap] 29,am g3 [.int .i64 o.c,.int .i64 o.a] 49,am g4 [.slice ga.Af r.1.frames.length ga.cf,.slice ga.Ab r.1.blocks.length ga.cb,.slice ga.Ai r.1.inn.length ga.ci,.slice ga.Ao r.1.out.length ga.co,.int .i64 r.1.status,.int .i64 r.1.trap] 29,ak (.slice ga.Af r.1.frames.length ga.cf) r.1.frames,ak (.slice ga.Ab r.1.blocks.length ga.cb) r.1.blocks,ak (.slice ga.Ai r.1.inn.length ga.ci) r.1.inn,ak (.slice ga.Ao r.1.out.length ga.co) r.1.out]) ?_ ?_
 ·refine ac<|aa<|rn 2 [7,9,10,11,12,13,14,15,16,17,18,57] rfl<|ae<|ay rfl (fun q4=>?_) (fun q4=>?_)
  ·have q4:df o=0:=q4
   refine aa<|rn 1 [9,10,11,12,13,14,15,16,17,58] rfl<|af (ai fc aq rfl rfl (by rfl)) rfl rfl ?_
   refine ag (br rfl rfl rfl Tryz.call32 (fun w hw=>oy o.c w)) rfl rfl (fun _ _=>?_)
   refine rn 1 [9,10,11,12,13,14,15,16,17,18] rfl<|bG (t:=18) (v':= .int .i64 (iR o)) rfl (by unfold iR;rw[if_pos q4]) ?_
   refine gM () (trivial) ⟨rfl,rfl,rfl,rfl,rfl,rfl,rfl,rfl,rfl,rfl,trivial⟩ me
  have q4:¬df o=0:=q4
  refine cJ (t:=18) (v':= .int .i64 (iR o)) rfl (by unfold iR;rw[if_neg q4]) ?_
  refine az<|aY () (trivial) ⟨rfl,rfl,rfl,rfl,rfl,rfl,rfl,rfl,rfl,rfl,trivial⟩ me
 rintro⟨⟩ _
 try dsimp only
 refine ac<|aa<|ag (br rfl rfl rfl Tryz.call33 (fun w hw=>qD w)) rfl rfl (fun _ _=>?_)
 refine rn 1 [9,10,11,12,13,14,15,16,17,18,62] rfl<|af (aL (vs:= [_,_,_,_,_,_]) fc aR aA rfl rfl (by rfl) rfl) rfl rfl ?_
 refine rn 2 [10,12,13,15,16,17,18,62,63,64,65] rfl<|af (aL (vs:= [_,_,_,_,_,_]) fc aR aA rfl rfl (by rfl) rfl) rfl rfl ?_
 refine ag (br rfl rfl rfl ou (fun w hw=>fL ga gw r.1 r.1 (eG fs m k) (hr▸zS) w (dE (m:=r.1) hw fc fc fc fc rfl rfl rfl rfl hI.1 hI.2) (dE (m:=r.1) hw fc fc fc fc rfl rfl rfl rfl hI.1 hI.2))) rfl rfl (fun _ _=>?_)
 refine rn 2 [10,12,13,15,17,18,69] rfl<|bG (t:=69) (v':= .bool true) rfl (rfl) ?_
 refine rn 5 [12,13,15,18,74] rfl<|bG (t:=74) (v':= .bool true) rfl (congrArg Value.bool (decide_eq_true rfl)) ?_
 refine rn 5 [12,18,79] rfl<|bG (t:=79) (v':= .bool true) rfl (congrArg Value.bool (decide_eq_true rfl)) ?_
 refine rn 5 [8] rfl<|ae<|av<|aB Tryz.results5 (ap rfl) ?_
 intro w hw
 exact⟨congrArg (fun b=>Ending.returned (.bool b)) (decide_eq_true rfl),hw.below⟩
end
end Go.Proofs.YtpacloheigifkaaGreat
