/- Lemmas of one proof. -/
import Derived.Test.YthfkmcbblnbfaaaGreatDoorM0R
import Derived.Test.YthfkmcbblnbfaaaGreatDoorM38R
import Derived.Test.YthfkmcbblnbfaaaGreatDoorM23R
import Derived.Test.YthfkmcbblnbfaaaGreatDoorM34R
import Derived.Test.YthfkmcbblnbfaaaGreatDoorM49R

namespace Go.Proofs.YthfkmcbblnbfaaaGreatDoor
set_option maxRecDepth 100000
set_option maxHeartbeats 16000000
open Go.RowKit
section
theorem wy (w:World):Calls Tryz.prog 44 #[] w fun e w'=>e= .returned (.bool true)/\Below w.heap.size w w':=by
 obtain⟨f1,f2,f3,f4,f5,f6,f7,f8,f9⟩:=xG
 refine enter Tryz.func44 rfl Tryz.ntmps44 rfl<|aj ?_
 refine eb rfl mn (fun w hw=>gR w) (fun gp _=>?_)
 refine eb rfl vk (fun w hw=>qW f1 f2 rfl _ _ w (SF.at_ (SF.own rfl fc) hw)) (fun a1 _=>aj ?_)
 intro g1 _
 refine dr (cV _ fc cX rfl rfl rfl rfl rfl (by rfl) rfl (by rfl)) rfl rfl (fun _ _=>?_)
 refine ay ?_
 refine bH<|eh (fun _:Nat×MA=>True) (fun g=> [(2,.int .i64 0),(3,.pointer (some ⟨g.1,0,none⟩)),(4,.int .i64 0)]) (fun g=> [am g.1 [.slice g.2.Af 1 g.2.cf,.slice g.2.Ab 0 g.2.cb,.slice g.2.Ai 0 g.2.ci,.slice g.2.Ao 0 g.2.co,.int .i64 0,.int .i64 0] 43,ak (.slice g.2.Af 1 g.2.cf) lZ.F,ak (.slice g.2.Ab 0 g.2.cb) lZ.B,ak (.slice g.2.Ai 0 g.2.ci) lZ.I,ak (.slice g.2.Ao 0 g.2.co) lZ.out]) ?_ ?_
 ·refine iq (.still 1 (.pick 0 (.pick 2 (.calm 3 (.calm 4 (.calm 5 (.pick 6 (.pick 7 (.calm 8 .done) .stop) .stop)))) (.pick 6 (.pick 2 (.calm 3 (.calm 4 (.calm 5 (.pick 7 (.calm 8 .done) .stop)))) .stop) .stop)) (.pick 6 (.pick 0 (.pick 2 (.calm 3 (.calm 4 (.calm 5 (.pick 7 (.calm 8 .done) .stop)))) .stop) .stop) .stop))) [2,3,4,5,7,8] rfl (by kernel_rfl) (by kernel_rfl) ?_
  refine aj ?_
  refine cP rfl (jc rfl rfl rfl mn (fun w hw=>gR w)) rfl rfl (.inr fun _=>ha) (fun gq _=>?_) ?_
  ·refine cP rfl (jc rfl rfl rfl vl (fun w hw=>qV rfl f3 f4 _ _ a1 w (SF.at_ (SF.own rfl fc) hw) (dx hw fc fc fc fc rfl rfl rfl rfl (by decide) (by decide)))) rfl rfl (.inl rfl) (fun a2 _=>?_) ?_
   ·refine aj ?_
    intro q _
    refine aj ?_
    refine bu<|bS (q,a2) (trivial) (hh:=(fun _ h=>h.msub ms))
   refine aj ?_
   intro q _
   refine ia rfl rfl vl (fun w hw=>qV rfl f3 f4 _ _ a1 w (SF.at_ (SF.own rfl fc) hw) (dx hw fc fc fc fc rfl rfl rfl rfl (by decide) (by decide))) (fun a2 _=>aj ?_)
   refine bu<|bS (q,a2) (trivial) (hh:=(fun _ h=>h.msub ms))
  refine aj ?_
  intro q _
  refine ia rfl rfl mn (fun w hw=>gR w) (fun gq _=>?_)
  refine ia rfl rfl vl (fun w hw=>qV rfl f3 f4 _ _ a1 w (SF.at_ (SF.own rfl fc) hw) (dx hw fc fc fc fc rfl rfl rfl rfl (by decide) (by decide))) (fun a2 _=>aj ?_)
  refine bu<|bS (q,a2) (trivial) (hh:=(fun _ h=>h.msub ms))
 rintro⟨gn,a2⟩ _
 refine aO ?_
 refine eb rfl vj (fun w hw=>kB w) (fun gs _=>?_)
 refine eb rfl vk (fun w hw=>qW f6 f7 rfl _ _ w (SF.at_ (SF.own rfl fc) hw)) (fun a3 _=>aj ?_)
 intro g2 _
 refine dr (cV _ fc cX rfl rfl rfl rfl rfl (by rfl) rfl (by rfl)) rfl rfl (fun _ _=>?_)
 refine ay ?_
 refine bH<|eh (fun _:Nat×MA=>True) (fun g=> [(2,.int .i64 0),(3,.pointer (some ⟨gn,0,none⟩)),(4,.int .i64 0),(6,.int .i64 0),(7,.pointer (some ⟨g.1,0,none⟩)),(8,.int .i64 0)]) (fun g=> [am g.1 [.slice g.2.Af 1 g.2.cf,.slice g.2.Ab 0 g.2.cb,.slice g.2.Ai 0 g.2.ci,.slice g.2.Ao 0 g.2.co,.int .i64 1,.int .i64 0] 43,ak (.slice g.2.Af 1 g.2.cf) xB.F,am gn [.slice a2.Af 1 a2.cf,.slice a2.Ab 0 a2.cb,.slice a2.Ai 0 a2.ci,.slice a2.Ao 0 a2.co,.int .i64 0,.int .i64 0] 43,ak (.slice a2.Af 1 a2.cf) lZ.F,ak (.slice a2.Ab 0 a2.cb) lZ.B,ak (.slice a2.Ai 0 a2.ci) lZ.I,ak (.slice a2.Ao 0 a2.co) lZ.out]) ?_ ?_
 ·refine iq (.still 1 (.pick 0 (.pick 2 (.calm 3 (.calm 4 (.calm 5 (.pick 6 (.pick 7 (.calm 8 .done) .stop) .stop)))) (.pick 6 (.pick 2 (.calm 3 (.calm 4 (.calm 5 (.pick 7 (.calm 8 .done) .stop)))) .stop) .stop)) (.pick 6 (.pick 0 (.pick 2 (.calm 3 (.calm 4 (.calm 5 (.pick 7 (.calm 8 .done) .stop)))) .stop) .stop) .stop))) [2,3,4,5,7,8] rfl (by kernel_rfl) (by kernel_rfl) ?_
  refine aj ?_
  refine cP rfl (jc rfl rfl rfl vj (fun w hw=>kB w)) rfl rfl (.inr fun _=>ha) (fun gq _=>?_) ?_
  ·refine cP rfl (jc rfl rfl rfl vl (fun w hw=>qU rfl f8 f9 _ _ a3 w (SF.at_ (SF.own rfl fc) hw) (dx hw fc fc fc fc rfl rfl rfl rfl (by decide) (by decide)))) rfl rfl (.inl rfl) (fun a4 _=>?_) ?_
   ·refine aj ?_
    intro q _
    refine aj ?_
    refine bu<|bS (q,a4) (trivial) (hh:=(fun _ h=>h.msub ms))
   refine aj ?_
   intro q _
   refine ia rfl rfl vl (fun w hw=>qU rfl f8 f9 _ _ a3 w (SF.at_ (SF.own rfl fc) hw) (dx hw fc fc fc fc rfl rfl rfl rfl (by decide) (by decide))) (fun a4 _=>aj ?_)
   refine bu<|bS (q,a4) (trivial) (hh:=(fun _ h=>h.msub ms))
  refine aj ?_
  intro q _
  refine ia rfl rfl vj (fun w hw=>kB w) (fun gq _=>?_)
  refine ia rfl rfl vl (fun w hw=>qU rfl f8 f9 _ _ a3 w (SF.at_ (SF.own rfl fc) hw) (dx hw fc fc fc fc rfl rfl rfl rfl (by decide) (by decide))) (fun a4 _=>aj ?_)
  refine bu<|bS (q,a4) (trivial) (hh:=(fun _ h=>h.msub ms))
 rintro⟨gw,a4⟩ _
 try dsimp only
 refine yd (k:=1) (c:=a2.cf) (A:=a2.Af) (fr:=lZ.F) rfl fc fun X hsX hX=>?_
 refine yd (k:=1) (c:=a4.cf) (A:=a4.Af) (fr:=xB.F) rfl fc fun Y hsY hY=>?_
 obtain⟨B1,d1,B2,d2,e1,hX1⟩:=hX.el 0 (by decide)
 obtain⟨B3,d3,B4,d4,e2,hY1⟩:=hY.el 0 (by decide)
 have hS:∀H H',cN H X H'->SF w.heap.size w H B2 1 d2 [(⟨false,3⟩:aC)]:=fun _ _ f=>(hX1 _ _ f).2
 refine aj ?_
 refine bz [0,3,6,9,12,15,18,21,24,27,30,33,36,39,42,48,47,53,54,57,60,63,66,69,72,75,78,81,84,87,90,93,96,99,102,105,108,111,114,117,120,123,126,129,132,135,138,141,144,147,150,153,156,159,162,165,168,171,174,177,180,183,186,189,192,195,198,201] [] rfl ?_
 refine ay ?_
 refine ay ?_
 refine ay ?_
 refine cC (t:=33) (v':= .bool true) rfl (rfl) ?_
 refine ay ?_
 refine ay ?_
 refine ay ?_
 refine ay ?_
 refine cC (t:=37) (v':= .bool true) rfl (rfl) ?_
 refine ay ?_
 refine ay ?_
 refine ay ?_
 refine ay ?_
 refine cC (t:=41) (v':= .bool true) rfl (rfl) ?_
 refine ay ?_
 refine ay ?_
 refine ay ?_
 refine ay ?_
 refine cC (t:=45) (v':= .bool true) rfl (rfl)<|aj ?_
 refine ia rfl rfl mn (fun w hw=>gR w) (fun gc _=>?_)
 refine km rfl rfl vm (fun w hw=>Ea rfl f5 _ _ a2 w (SF.at_ (SF.own rfl fc) hw) ⟨SF.at_ (SF.own rfl .a) (hX.back _ _ _ w fc fc hw),SF.at_ (SF.own rfl fc) hw,SF.at_ (SF.own rfl fc) hw,SF.at_ (SF.own rfl fc) hw,by decide,by decide⟩) ?_
 refine ay ?_
 refine ay ?_
 refine ay ?_
 refine cC (t:=51) (v':= .bool true) rfl (rfl) ?_
 refine ay ?_
 refine cY rfl (cE fc Rt rfl rfl (by rfl)) rfl rfl ha ?_
 refine cY rfl (kT cD rfl rfl) rfl rfl ha ?_
 refine ay ?_
 refine ay ?_
 refine ay ?_
 refine cC (t:=57) (v':= .bool true) rfl (rfl)<|aj ?_
 refine tE rfl (bg (k:=0) cD dI (SF.own (α:=aB) hX.len fc) (by omega) rfl rfl rfl)<|aj ?_
 refine tE rfl (bQ (fun w hw=>(SF.hfr (SF.own (α:=aB) hX.len fc) (k:=0) (by decide) e1) w hw 1 _ rfl) rfl rfl be) ?_
 refine ay ?_
 refine ay ?_
 refine ay ?_
 refine cC (t:=65) (v':= .bool true) rfl (rfl)<|aj ?_
 refine tE rfl (bg (k:=0) cD dI (SF.own (α:=aB) hX.len fc) (by omega) rfl rfl rfl)<|aj ?_
 refine tE rfl (bQ (fun w hw=>(SF.hfr (SF.own (α:=aB) hX.len fc) (k:=0) (by decide) e1) w hw 3 _ rfl) rfl rfl dR) ?_
 refine cY rfl (kT ax rfl rfl) rfl rfl ha ?_
 refine ay ?_
 refine ay ?_
 refine ay ?_
 refine cC (t:=74) (v':= .bool true) rfl (rfl)<|aj ?_
 refine tE rfl (bg (k:=0) cD dI (SF.own (α:=aB) hX.len fc) (by omega) rfl rfl rfl)<|aj ?_
 refine tE rfl (bQ (fun w hw=>(SF.hfr (SF.own (α:=aB) hX.len fc) (k:=0) (by decide) e1) w hw 3 _ rfl) rfl rfl dR) ?_
 refine tE rfl (bg (k:=0) ax aI (hS _ _ fc) (by omega) rfl rfl rfl)<|aj ?_
 refine tE rfl (bQ (fun w hw=>(SF.val (k:=0) (hS _ _ fc) (by decide) default) w hw 1 _ rfl) rfl rfl be) ?_
 refine ay ?_
 refine ay ?_
 refine ay ?_
 refine cC (t:=85) (v':= .bool true) rfl (rfl) ?_
 refine ay ?_
 refine cY rfl (cE fc be rfl rfl (by rfl)) rfl rfl ha ?_
 refine ay ?_
 refine ay ?_
 refine ay ?_
 refine cC (t:=90) (v':= .bool true) rfl (rfl)<|aj ?_
 refine tE rfl (bg (k:=0) cD dI (SF.own (α:=aB) hY.len fc) (by omega) rfl rfl rfl)<|aj ?_
 refine tE rfl (bQ (fun w hw=>(SF.hfr (SF.own (α:=aB) hY.len fc) (k:=0) (by decide) e2) w hw 1 _ rfl) rfl rfl be)<|aj ?_
 intro w hw
 exact⟨rfl,hw.below⟩
end
