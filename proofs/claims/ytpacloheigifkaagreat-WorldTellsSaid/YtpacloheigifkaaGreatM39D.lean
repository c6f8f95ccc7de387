/- Texts of one proof, one behind the other: lemmas alone. -/
import Derived.Test.YtpacloheigifkaaGreatM0D
import Derived.Test.YtpacloheigifkaaGreatM38D
import Derived.Test.YtpacloheigifkaaGreatM25D
import Derived.Test.YtpacloheigifkaaGreatM35D
import Derived.Test.YtpacloheigifkaaGreatM22D
import Derived.Test.YtpacloheigifkaaGreatM32D
import Derived.Test.YtpacloheigifkaaGreatM18D
import Derived.Test.YtpacloheigifkaaGreatM14D

namespace Go.Proofs.YtpacloheigifkaaGreat
open Go.RowKit
section
set_option maxRecDepth 100000 in
set_option maxHeartbeats 8000000 in
theorem jX (a:MA) (m:aD) (w:World) (hm:gk w.heap.size w a m) (hfit:rC m) :
  Calls Tryz.prog 75 #[.agg #[.slice a.Af m.frames.length a.cf,.slice a.Ab m.blocks.length a.cb,.slice a.Ai m.inn.length a.ci,.slice a.Ao m.out.length a.co,.int .i64 m.status,.int .i64 m.trap]] w fun e w'=> ∃g:MA,True∧
   e= .returned (.agg #[.slice g.Af m.frames.length g.cf,.slice g.Ab m.blocks.length g.cb,.slice g.Ai m.inn.length g.ci,.slice g.Ao m.out.length g.co,.int .i64 m.status,.int .i64 m.trap])∧
   Cw w.heap.size w [aj (.slice g.Af m.frames.length g.cf) m.frames,aj (.slice g.Ab m.blocks.length g.cb) m.blocks,aj (.slice g.Ai m.inn.length g.ci) m.inn,aj (.slice g.Ao m.out.length g.co) m.out] w':=by
 have b1:=bO hm.f
 have hf64:=hfit.f.1
 have hfi:=hfit.i
 have hfo:=hfit.o
 refine enter Tryz.func75 rfl Tryz.ntmps75 rfl ?_
 refine ac<|aa<|ag (bF rfl rfl rfl) rfl rfl (fun g1 _=>?_)
 refine ag (aZ bW rfl rfl) rfl rfl (fun g2 _=>?_)
 refine ae<|ac<|aa<|af (aQ (vs:= [_,_,_,_,_,_]) fc bd aF rfl rfl (by rfl) rfl) rfl rfl ?_
 refine ag (aZ bW rfl rfl) rfl rfl (fun g3 _=>?_)
 refine ag (aH _ fc aF rfl rfl rfl rfl rfl (by rfl) rfl (by rfl)) rfl rfl (fun _ _=>?_)
 refine ae<|dF (fun _:(Option Addr×Nat)×(Option Addr×Nat)×(Option Addr×Nat)=>True) (fun g=> [(1,.pointer (some ⟨g1,0,none⟩)),(2,.pointer (some ⟨g2,0,none⟩)),(3,.pointer (some ⟨g3,0,none⟩))]) (fun g=> [am g1 [.slice a.Af m.frames.length a.cf,.slice a.Ab m.blocks.length a.cb,.slice a.Ai m.inn.length a.ci,.slice a.Ao m.out.length a.co,.int .i64 m.status,.int .i64 m.trap] 29,am g2 [.slice none 0 0,.slice none 0 0,.slice none 0 0,.slice none 0 0,.int .i64 0,.int .i64 0] 29,am g3 [.slice none 0 0,.slice g.1.1 m.blocks.length g.1.2,.slice g.2.1.1 m.inn.length g.2.1.2,.slice g.2.2.1 m.out.length g.2.2.2,.int .i64 m.status,.int .i64 m.trap] 29,aj (.slice g.1.1 m.blocks.length g.1.2) m.blocks,aj (.slice g.2.1.1 m.inn.length g.2.1.2) m.inn,aj (.slice g.2.2.1 m.out.length g.2.2.2) m.out]) ?_ ?_
 ·refine bQ (.still 0 (.still 1 (.still 4 (.still 5 (.still 8 (.still 9 (.pick 2 (.still 11 (.pick 3 (.pick 6 (.pick 7 (.pick 10 (.pick 12 (.calm 13 (.pick 14 (.calm 15 (.pick 16 (.calm 17 (.pick 18 .done .stop)) .stop)) .stop)) .stop) .stop) .stop) (.pick 7 (.pick 6 (.pick 10 (.pick 12 (.calm 13 (.pick 14 (.calm 15 (.pick 16 (.calm 17 (.pick 18 .done .stop)) .stop)) .stop)) .stop) .stop) .stop) .stop)) (.pick 7 (.pick 3 (.pick 6 (.pick 10 (.pick 12 (.calm 13 (.pick 14 (.calm 15 (.pick 16 (.calm 17 (.pick 18 .done .stop)) .stop)) .stop)) .stop) .stop) .stop) .stop) .stop))) (.pick 3 (.pick 2 (.still 11 (.pick 6 (.pick 7 (.pick 10 (.pick 12 (.calm 13 (.pick 14 (.calm 15 (.pick 16 (.calm 17 (.pick 18 .done .stop)) .stop)) .stop)) .stop) .stop) .stop) (.pick 7 (.pick 6 (.pick 10 (.pick 12 (.calm 13 (.pick 14 (.calm 15 (.pick 16 (.calm 17 (.pick 18 .done .stop)) .stop)) .stop)) .stop) .stop) .stop) .stop))) (.pick 7 (.pick 2 (.still 11 (.pick 6 (.pick 10 (.pick 12 (.calm 13 (.pick 14 (.calm 15 (.pick 16 (.calm 17 (.pick 18 .done .stop)) .stop)) .stop)) .stop) .stop) .stop)) .stop) .stop)) (.pick 7 (.pick 2 (.still 11 (.pick 3 (.pick 6 (.pick 10 (.pick 12 (.calm 13 (.pick 14 (.calm 15 (.pick 16 (.calm 17 (.pick 18 .done .stop)) .stop)) .stop)) .stop) .stop) .stop) .stop)) (.pick 3 (.pick 2 (.still 11 (.pick 6 (.pick 10 (.pick 12 (.calm 13 (.pick 14 (.calm 15 (.pick 16 (.calm 17 (.pick 18 .done .stop)) .stop)) .stop)) .stop) .stop) .stop)) .stop) .stop)) .stop))))))))) [12,13,14,15,16,17,18] rfl (by kernel_rfl) (by kernel_rfl) ?_
  refine aV ha 1 [1,2,3,7] rfl<|an rfl (ai fc ew rfl rfl (by rfl)) rfl rfl ha ?_
  refine aV ha 1 [1,2,3,8,11] rfl<|an rfl (ai fc a5 rfl rfl (by rfl)) rfl rfl ha ?_
  refine aV ha 1 [1,2,3,8,12,15] rfl<|an rfl (ai fc a5 rfl rfl (by rfl)) rfl rfl ha ?_
  refine aB rfl (eL rfl rfl rfl uL (fun w hw=>kX _ m.blocks w (hw.ro hm.b) hfit.b)) rfl rfl (.inr fun _=>ha) (fun⟨A1,c1⟩ _=>?_) ?_
  ·try dsimp only
   refine aV ha 1 [1,2,3,9,12,16,18] rfl<|aB rfl ((bh (cs:= []) ah aI a7 rfl rfl rfl rfl rfl).mem (H'':=fun g=>aj (.slice (some ⟨g,0,none⟩) 0 0) ([]:List Int)::_) fun g w h=>cA (α:=Int) (m:=0) [] rfl (by simp) rfl (by decide) h) rfl rfl (.inr fun _=>ha) (fun ge _=>?_) ?_
   ·refine aB rfl (dy (α:=Int) (bytes:=8) (xs:= []) (ys:=m.inn) (List.nil_append m.inn).symm ah (bM da) rfl fc (.ro hm.i) (by simp only[List.length_nil];omega) (by simp only[List.length_nil];omega) rfl rfl rfl) rfl rfl (.inr fun _=>ha) (fun⟨A2,c2⟩ _=>?_) ?_
    ·try dsimp only
     refine aB rfl ((bh (cs:= []) ah aI a7 rfl rfl rfl rfl rfl).mem (H'':=fun g=>aj (.slice (some ⟨g,0,none⟩) 0 0) ([]:List Int)::_) fun g w h=>cA (α:=Int) (m:=0) [] rfl (by simp) rfl (by decide) h) rfl rfl (.inr fun _=>ha) (fun gf _=>?_) ay
     refine aB rfl (dy (α:=Int) (bytes:=8) (xs:= []) (ys:=m.out) (List.nil_append m.out).symm ah (bM da) rfl fc (.ro hm.o) (by simp only[List.length_nil];omega) (by simp only[List.length_nil];omega) rfl rfl rfl) rfl rfl (.inr fun _=>ha) (fun⟨A3,c3⟩ _=>?_) ay
     try dsimp only
     refine aB rfl (aH _ fc iJ rfl rfl rfl rfl rfl (by rfl) rfl (by rfl)) rfl rfl (.inl rfl) (fun _ _=>?_) ay
     refine dZ 1 [1,2,3,13,17,19] rfl<|aB rfl (aH _ fc bV rfl rfl rfl rfl rfl (by rfl) rfl (by rfl)) rfl rfl (.inl rfl) (fun _ _=>?_) ay
     refine dZ 1 [1,2,3,17,20] rfl<|aB rfl (aH _ fc bV rfl rfl rfl rfl rfl (by rfl) rfl (by rfl)) rfl rfl (.inl rfl) (fun _ _=>?_) ay
     refine dZ 1 [1,2,3,21] rfl<|aB rfl (aH _ fc fA rfl rfl rfl rfl rfl (by rfl) rfl (by rfl)) rfl rfl (.inl rfl) (fun _ _=>?_) ay
     refine ck<|aY ((A1,c1),(A2,c2),(A3,c3)) (trivial) ⟨rfl,rfl,rfl,trivial⟩ (fun _ h=>h.msub ms)
    refine aB rfl ((bh (cs:= []) ah aI a7 rfl rfl rfl rfl rfl).mem (H'':=fun g=>aj (.slice (some ⟨g,0,none⟩) 0 0) ([]:List Int)::_) fun g w h=>cA (α:=Int) (m:=0) [] rfl (by simp) rfl (by decide) h) rfl rfl (.inr fun _=>ha) (fun gf _=>?_) ay
    refine aB rfl (dy (α:=Int) (bytes:=8) (xs:= []) (ys:=m.inn) (List.nil_append m.inn).symm ah (bM da) rfl fc (.ro hm.i) (by simp only[List.length_nil];omega) (by simp only[List.length_nil];omega) rfl rfl rfl) rfl rfl (.inr fun _=>ha) (fun⟨A2,c2⟩ _=>?_) ay
    try dsimp only
    refine aB rfl (dy (α:=Int) (bytes:=8) (xs:= []) (ys:=m.out) (List.nil_append m.out).symm ah (bM da) rfl fc (.ro hm.o) (by simp only[List.length_nil];omega) (by simp only[List.length_nil];omega) rfl rfl rfl) rfl rfl (.inr fun _=>ha) (fun⟨A3,c3⟩ _=>?_) ay
    try dsimp only
    refine aB rfl (aH _ fc iJ rfl rfl rfl rfl rfl (by rfl) rfl (by rfl)) rfl rfl (.inl rfl) (fun _ _=>?_) ay
    refine dZ 1 [1,2,3,13,17,19] rfl<|aB rfl (aH _ fc bV rfl rfl rfl rfl rfl (by rfl) rfl (by rfl)) rfl rfl (.inl rfl) (fun _ _=>?_) ay
    refine dZ 1 [1,2,3,17,20] rfl<|aB rfl (aH _ fc bV rfl rfl rfl rfl rfl (by rfl) rfl (by rfl)) rfl rfl (.inl rfl) (fun _ _=>?_) ay
    refine dZ 1 [1,2,3,21] rfl<|aB rfl (aH _ fc fA rfl rfl rfl rfl rfl (by rfl) rfl (by rfl)) rfl rfl (.inl rfl) (fun _ _=>?_) ay
    refine ck<|aY ((A1,c1),(A2,c2),(A3,c3)) (trivial) ⟨rfl,rfl,rfl,trivial⟩ (fun _ h=>h.msub ms)
   refine aB rfl ((bh (cs:= []) ah aI a7 rfl rfl rfl rfl rfl).mem (H'':=fun g=>aj (.slice (some ⟨g,0,none⟩) 0 0) ([]:List Int)::_) fun g w h=>cA (α:=Int) (m:=0) [] rfl (by simp) rfl (by decide) h) rfl rfl (.inr fun _=>ha) (fun gf _=>?_) ay
   refine aB rfl ((bh (cs:= []) ah aI a7 rfl rfl rfl rfl rfl).mem (H'':=fun g=>aj (.slice (some ⟨g,0,none⟩) 0 0) ([]:List Int)::_) fun g w h=>cA (α:=Int) (m:=0) [] rfl (by simp) rfl (by decide) h) rfl rfl (.inr fun _=>ha) (fun ge _=>?_) ay
   refine aB rfl (dy (α:=Int) (bytes:=8) (xs:= []) (ys:=m.inn) (List.nil_append m.inn).symm ah (bM da) rfl fc (.ro hm.i) (by simp only[List.length_nil];omega) (by simp only[List.length_nil];omega) rfl rfl rfl) rfl rfl (.inr fun _=>ha) (fun⟨A2,c2⟩ _=>?_) ay
   try dsimp only
   refine aB rfl (dy (α:=Int) (bytes:=8) (xs:= []) (ys:=m.out) (List.nil_append m.out).symm ah (bM da) rfl fc (.ro hm.o) (by simp only[List.length_nil];omega) (by simp only[List.length_nil];omega) rfl rfl rfl) rfl rfl (.inr fun _=>ha) (fun⟨A3,c3⟩ _=>?_) ay
   try dsimp only
   refine aB rfl (aH _ fc iJ rfl rfl rfl rfl rfl (by rfl) rfl (by rfl)) rfl rfl (.inl rfl) (fun _ _=>?_) ay
   refine dZ 1 [1,2,3,13,17,19] rfl<|aB rfl (aH _ fc bV rfl rfl rfl rfl rfl (by rfl) rfl (by rfl)) rfl rfl (.inl rfl) (fun _ _=>?_) ay
   refine dZ 1 [1,2,3,17,20] rfl<|aB rfl (aH _ fc bV rfl rfl rfl rfl rfl (by rfl) rfl (by rfl)) rfl rfl (.inl rfl) (fun _ _=>?_) ay
   refine dZ 1 [1,2,3,21] rfl<|aB rfl (aH _ fc fA rfl rfl rfl rfl rfl (by rfl) rfl (by rfl)) rfl rfl (.inl rfl) (fun _ _=>?_) ay
   refine ck<|aY ((A1,c1),(A2,c2),(A3,c3)) (trivial) ⟨rfl,rfl,rfl,trivial⟩ (fun _ h=>h.msub ms)
  refine aB rfl ((bh (cs:= []) ah aI a7 rfl rfl rfl rfl rfl).mem (H'':=fun g=>aj (.slice (some ⟨g,0,none⟩) 0 0) ([]:List Int)::_) fun g w h=>cA (α:=Int) (m:=0) [] rfl (by simp) rfl (by decide) h) rfl rfl (.inr fun _=>ha) (fun ge _=>?_) ?_
  ·refine aB rfl (eL rfl rfl rfl uL (fun w hw=>kX _ m.blocks w (hw.ro hm.b) hfit.b)) rfl rfl (.inr fun _=>ha) (fun⟨A1,c1⟩ _=>?_) ?_
   ·try dsimp only
    refine aV ha 1 [1,2,3,9,10,12,16,18] rfl<|aB rfl (dy (α:=Int) (bytes:=8) (xs:= []) (ys:=m.inn) (List.nil_append m.inn).symm ah (bM da) rfl fc (.ro hm.i) (by simp only[List.length_nil];omega) (by simp only[List.length_nil];omega) rfl rfl rfl) rfl rfl (.inr fun _=>ha) (fun⟨A2,c2⟩ _=>?_) ?_
    ·try dsimp only
     refine aB rfl ((bh (cs:= []) ah aI a7 rfl rfl rfl rfl rfl).mem (H'':=fun g=>aj (.slice (some ⟨g,0,none⟩) 0 0) ([]:List Int)::_) fun g w h=>cA (α:=Int) (m:=0) [] rfl (by simp) rfl (by decide) h) rfl rfl (.inr fun _=>ha) (fun gf _=>?_) ay
     refine aB rfl (dy (α:=Int) (bytes:=8) (xs:= []) (ys:=m.out) (List.nil_append m.out).symm ah (bM da) rfl fc (.ro hm.o) (by simp only[List.length_nil];omega) (by simp only[List.length_nil];omega) rfl rfl rfl) rfl rfl (.inr fun _=>ha) (fun⟨A3,c3⟩ _=>?_) ay
     try dsimp only
     refine aB rfl (aH _ fc iJ rfl rfl rfl rfl rfl (by rfl) rfl (by rfl)) rfl rfl (.inl rfl) (fun _ _=>?_) ay
     refine dZ 1 [1,2,3,13,17,19] rfl<|aB rfl (aH _ fc bV rfl rfl rfl rfl rfl (by rfl) rfl (by rfl)) rfl rfl (.inl rfl) (fun _ _=>?_) ay
     refine dZ 1 [1,2,3,17,20] rfl<|aB rfl (aH _ fc bV rfl rfl rfl rfl rfl (by rfl) rfl (by rfl)) rfl rfl (.inl rfl) (fun _ _=>?_) ay
     refine dZ 1 [1,2,3,21] rfl<|aB rfl (aH _ fc fA rfl rfl rfl rfl rfl (by rfl) rfl (by rfl)) rfl rfl (.inl rfl) (fun _ _=>?_) ay
     refine ck<|aY ((A1,c1),(A2,c2),(A3,c3)) (trivial) ⟨rfl,rfl,rfl,trivial⟩ (fun _ h=>h.msub ms)
    refine aB rfl ((bh (cs:= []) ah aI a7 rfl rfl rfl rfl rfl).mem (H'':=fun g=>aj (.slice (some ⟨g,0,none⟩) 0 0) ([]:List Int)::_) fun g w h=>cA (α:=Int) (m:=0) [] rfl (by simp) rfl (by decide) h) rfl rfl (.inr fun _=>ha) (fun gf _=>?_) ay
    refine aB rfl (dy (α:=Int) (bytes:=8) (xs:= []) (ys:=m.inn) (List.nil_append m.inn).symm ah (bM da) rfl fc (.ro hm.i) (by simp only[List.length_nil];omega) (by simp only[List.length_nil];omega) rfl rfl rfl) rfl rfl (.inr fun _=>ha) (fun⟨A2,c2⟩ _=>?_) ay
    try dsimp only
    refine aB rfl (dy (α:=Int) (bytes:=8) (xs:= []) (ys:=m.out) (List.nil_append m.out).symm ah (bM da) rfl fc (.ro hm.o) (by simp only[List.length_nil];omega) (by simp only[List.length_nil];omega) rfl rfl rfl) rfl rfl (.inr fun _=>ha) (fun⟨A3,c3⟩ _=>?_) ay
    try dsimp only
    refine aB rfl (aH _ fc iJ rfl rfl rfl rfl rfl (by rfl) rfl (by rfl)) rfl rfl (.inl rfl) (fun _ _=>?_) ay
    refine dZ 1 [1,2,3,13,17,19] rfl<|aB rfl (aH _ fc bV rfl rfl rfl rfl rfl (by rfl) rfl (by rfl)) rfl rfl (.inl rfl) (fun _ _=>?_) ay
    refine dZ 1 [1,2,3,17,20] rfl<|aB rfl (aH _ fc bV rfl rfl rfl rfl rfl (by rfl) rfl (by rfl)) rfl rfl (.inl rfl) (fun _ _=>?_) ay
    refine dZ 1 [1,2,3,21] rfl<|aB rfl (aH _ fc fA rfl rfl rfl rfl rfl (by rfl) rfl (by rfl)) rfl rfl (.inl rfl) (fun _ _=>?_) ay
    refine ck<|aY ((A1,c1),(A2,c2),(A3,c3)) (trivial) ⟨rfl,rfl,rfl,trivial⟩ (fun _ h=>h.msub ms)
   refine aB rfl ((bh (cs:= []) ah aI a7 rfl rfl rfl rfl rfl).mem (H'':=fun g=>aj (.slice (some ⟨g,0,none⟩) 0 0) ([]:List Int)::_) fun g w h=>cA (α:=Int) (m:=0) [] rfl (by simp) rfl (by decide) h) rfl rfl (.inr fun _=>ha) (fun gf _=>?_) ay
   refine aB rfl (eL rfl rfl rfl uL (fun w hw=>kX _ m.blocks w (hw.ro hm.b) hfit.b)) rfl rfl (.inr fun _=>ha) (fun⟨A1,c1⟩ _=>?_) ay
   try dsimp only
   refine aV ha 1 [1,2,3,9,10,12,14,16,18] rfl<|aB rfl (dy (α:=Int) (bytes:=8) (xs:= []) (ys:=m.inn) (List.nil_append m.inn).symm ah (bM da) rfl fc (.ro hm.i) (by simp only[List.length_nil];omega) (by simp only[List.length_nil];omega) rfl rfl rfl) rfl rfl (.inr fun _=>ha) (fun⟨A2,c2⟩ _=>?_) ay
   try dsimp only
   refine aB rfl (dy (α:=Int) (bytes:=8) (xs:= []) (ys:=m.out) (List.nil_append m.out).symm ah (bM da) rfl fc (.ro hm.o) (by simp only[List.length_nil];omega) (by simp only[List.length_nil];omega) rfl rfl rfl) rfl rfl (.inr fun _=>ha) (fun⟨A3,c3⟩ _=>?_) ay
   try dsimp only
   refine aB rfl (aH _ fc iJ rfl rfl rfl rfl rfl (by rfl) rfl (by rfl)) rfl rfl (.inl rfl) (fun _ _=>?_) ay
   refine dZ 1 [1,2,3,13,17,19] rfl<|aB rfl (aH _ fc bV rfl rfl rfl rfl rfl (by rfl) rfl (by rfl)) rfl rfl (.inl rfl) (fun _ _=>?_) ay
   refine dZ 1 [1,2,3,17,20] rfl<|aB rfl (aH _ fc bV rfl rfl rfl rfl rfl (by rfl) rfl (by rfl)) rfl rfl (.inl rfl) (fun _ _=>?_) ay
   refine dZ 1 [1,2,3,21] rfl<|aB rfl (aH _ fc fA rfl rfl rfl rfl rfl (by rfl) rfl (by rfl)) rfl rfl (.inl rfl) (fun _ _=>?_) ay
   refine ck<|aY ((A1,c1),(A2,c2),(A3,c3)) (trivial) ⟨rfl,rfl,rfl,trivial⟩ (fun _ h=>h.msub ms)
  refine aB rfl ((bh (cs:= []) ah aI a7 rfl rfl rfl rfl rfl).mem (H'':=fun g=>aj (.slice (some ⟨g,0,none⟩) 0 0) ([]:List Int)::_) fun g w h=>cA (α:=Int) (m:=0) [] rfl (by simp) rfl (by decide) h) rfl rfl (.inr fun _=>ha) (fun gf _=>?_) ay
  refine aB rfl (eL rfl rfl rfl uL (fun w hw=>kX _ m.blocks w (hw.ro hm.b) hfit.b)) rfl rfl (.inr fun _=>ha) (fun⟨A1,c1⟩ _=>?_) ?_
  ·try dsimp only
   refine aV ha 1 [1,2,3,9,12,14,16,18] rfl<|aB rfl ((bh (cs:= []) ah aI a7 rfl rfl rfl rfl rfl).mem (H'':=fun g=>aj (.slice (some ⟨g,0,none⟩) 0 0) ([]:List Int)::_) fun g w h=>cA (α:=Int) (m:=0) [] rfl (by simp) rfl (by decide) h) rfl rfl (.inr fun _=>ha) (fun ge _=>?_) ay
   refine aB rfl (dy (α:=Int) (bytes:=8) (xs:= []) (ys:=m.inn) (List.nil_append m.inn).symm ah (bM da) rfl fc (.ro hm.i) (by simp only[List.length_nil];omega) (by simp only[List.length_nil];omega) rfl rfl rfl) rfl rfl (.inr fun _=>ha) (fun⟨A2,c2⟩ _=>?_) ay
   try dsimp only
   refine aB rfl (dy (α:=Int) (bytes:=8) (xs:= []) (ys:=m.out) (List.nil_append m.out).symm ah (bM da) rfl fc (.ro hm.o) (by simp only[List.length_nil];omega) (by simp only[List.length_nil];omega) rfl rfl rfl) rfl rfl (.inr fun _=>ha) (fun⟨A3,c3⟩ _=>?_) ay
   try dsimp only
   refine aB rfl (aH _ fc iJ rfl rfl rfl rfl rfl (by rfl) rfl (by rfl)) rfl rfl (.inl rfl) (fun _ _=>?_) ay
   refine dZ 1 [1,2,3,13,17,19] rfl<|aB rfl (aH _ fc bV rfl rfl rfl rfl rfl (by rfl) rfl (by rfl)) rfl rfl (.inl rfl) (fun _ _=>?_) ay
   refine dZ 1 [1,2,3,17,20] rfl<|aB rfl (aH _ fc bV rfl rfl rfl rfl rfl (by rfl) rfl (by rfl)) rfl rfl (.inl rfl) (fun _ _=>?_) ay
   refine dZ 1 [1,2,3,21] rfl<|aB rfl (aH _ fc fA rfl rfl rfl rfl rfl (by rfl) rfl (by rfl)) rfl rfl (.inl rfl) (fun _ _=>?_) ay
   refine ck<|aY ((A1,c1),(A2,c2),(A3,c3)) (trivial) ⟨rfl,rfl,rfl,trivial⟩ (fun _ h=>h.msub ms)
  refine aB rfl ((bh (cs:= []) ah aI a7 rfl rfl rfl rfl rfl).mem (H'':=fun g=>aj (.slice (some ⟨g,0,none⟩) 0 0) ([]:List Int)::_) fun g w h=>cA (α:=Int) (m:=0) [] rfl (by simp) rfl (by decide) h) rfl rfl (.inr fun _=>ha) (fun ge _=>?_) ay
  refine aB rfl (eL rfl rfl rfl uL (fun w hw=>kX _ m.blocks w (hw.ro hm.b) hfit.b)) rfl rfl (.inr fun _=>ha) (fun⟨A1,c1⟩ _=>?_) ay
  try dsimp only
  refine aV ha 1 [1,2,3,9,10,12,14,16,18] rfl<|aB rfl (dy (α:=Int) (bytes:=8) (xs:= []) (ys:=m.inn) (List.nil_append m.inn).symm ah (bM da) rfl fc (.ro hm.i) (by simp only[List.length_nil];omega) (by simp only[List.length_nil];omega) rfl rfl rfl) rfl rfl (.inr fun _=>ha) (fun⟨A2,c2⟩ _=>?_) ay
  try dsimp only
  refine aB rfl (dy (α:=Int) (bytes:=8) (xs:= []) (ys:=m.out) (List.nil_append m.out).symm ah (bM da) rfl fc (.ro hm.o) (by simp only[List.length_nil];omega) (by simp only[List.length_nil];omega) rfl rfl rfl) rfl rfl (.inr fun _=>ha) (fun⟨A3,c3⟩ _=>?_) ay
  try dsimp only
  refine aB rfl (aH _ fc iJ rfl rfl rfl rfl rfl (by rfl) rfl (by rfl)) rfl rfl (.inl rfl) (fun _ _=>?_) ay
  refine dZ 1 [1,2,3,13,17,19] rfl<|aB rfl (aH _ fc bV rfl rfl rfl rfl rfl (by rfl) rfl (by rfl)) rfl rfl (.inl rfl) (fun _ _=>?_) ay
  refine dZ 1 [1,2,3,17,20] rfl<|aB rfl (aH _ fc bV rfl rfl rfl rfl rfl (by rfl) rfl (by rfl)) rfl rfl (.inl rfl) (fun _ _=>?_) ay
  refine dZ 1 [1,2,3,21] rfl<|aB rfl (aH _ fc fA rfl rfl rfl rfl rfl (by rfl) rfl (by rfl)) rfl rfl (.inl rfl) (fun _ _=>?_) ay
  refine ck<|aY ((A1,c1),(A2,c2),(A3,c3)) (trivial) ⟨rfl,rfl,rfl,trivial⟩ (fun _ h=>h.msub ms)
 rintro⟨⟨Ab,cb⟩,⟨Ai,ci⟩,⟨Ao,co⟩⟩ _
 try dsimp only
 refine dO (fun w h=>Cw.nilO aW h) ?_
 refine ac<|ac<|aa<|rn 1 [1,2,3,4] rfl<|ae<|aL (b8 (fun g:Nat×Option Addr×Nat=>g.1≤m.frames.length) (fun g=>m.frames.length - g.1) (fun g=> [(1,.pointer (some ⟨g1,0,none⟩)),(2,.pointer (some ⟨g2,0,none⟩)),(3,.pointer (some ⟨g3,0,none⟩)),(4,.int .i64 (g.1:Int))]) (fun g=> [aj (.slice g.2.1 (m.frames.take g.1).length g.2.2) (m.frames.take g.1),am g1 [.slice a.Af m.frames.length a.cf,.slice a.Ab m.blocks.length a.cb,.slice a.Ai m.inn.length a.ci,.slice a.Ao m.out.length a.co,.int .i64 m.status,.int .i64 m.trap] 29,am g2 [.slice none 0 0,.slice none 0 0,.slice none 0 0,.slice none 0 0,.int .i64 0,.int .i64 0] 29,aj (.slice Ab m.blocks.length cb) m.blocks,aj (.slice Ai m.inn.length ci) m.inn,aj (.slice Ao m.out.length co) m.out,am g3 [.slice g.2.1 (m.frames.take g.1).length g.2.2,.slice Ab m.blocks.length cb,.slice Ai m.inn.length ci,.slice Ao m.out.length co,.int .i64 m.status,.int .i64 m.trap] 29]) (0,none,0) (Nat.zero_le _) ⟨rfl,rfl,rfl,rfl,trivial⟩ me ?_)
 rintro⟨k,A',c'⟩ hk
 try dsimp only
 have hk:k≤m.frames.length:=hk
 have htl:(m.frames.take k).length=k:=by rw[List.length_take];omega
 refine ac<|ac<|aa<|rn 2 [1,2,3,4,22,23] rfl<|af (ai fc cd rfl rfl (by rfl)) rfl rfl ?_
 refine af (aN a6 rfl rfl) rfl rfl<|rn 1 [1,2,3,4,26] rfl<|ae<|aw rfl (fun hlt=>?_) (fun hlt=>?_)
 ·have hkl:k<m.frames.length:=by omega
  obtain⟨A1,c1,A2,c2,hl,hst,hi,hcell⟩:=hm.f.fr hkl
  obtain⟨hb1,hb2⟩:=hfit.f.2 (bg m.frames k) (ft hkl)
  have htk:=vz hkl
  refine ax (ap ?_)
  refine ac<|aL<|ac<|aa<|rn 1 [1,2,3,4,29] rfl<|af (ai fc cd rfl rfl (by rfl)) rfl rfl ?_
  refine rn 1 [1,2,3,4,30,31] rfl<|af (aO (k:=k) a6 bG (.ro hm.f) (by omega) rfl rfl rfl) rfl rfl<|af (cr (hcell _) rfl rfl gJ bG) rfl rfl<|ag (aZ df rfl rfl) rfl rfl (fun g4 _=>?_)
  refine ag (aH _ fc bG rfl rfl rfl rfl rfl (by rfl) rfl (by rfl)) rfl rfl (fun _ _=>?_)
  refine ae<|dF (fun _:(Option Addr×Nat)×(Option Addr×Nat)=>True) (fun g=> [(1,.pointer (some ⟨g1,0,none⟩)),(2,.pointer (some ⟨g2,0,none⟩)),(3,.pointer (some ⟨g3,0,none⟩)),(4,.int .i64 (k:Int)),(5,.pointer (some ⟨g4,0,none⟩))]) (fun g=> [am g4 [.int .i64 (bg m.frames k).func,.int .i64 (bg m.frames k).pc,.slice g.1.1 (bg m.frames k).locals.length g.1.2,.slice g.2.1 (bg m.frames k).stack.length g.2.2] 97,aj (.slice g.1.1 (bg m.frames k).locals.length g.1.2) (bg m.frames k).locals,aj (.slice g.2.1 (bg m.frames k).stack.length g.2.2) (bg m.frames k).stack,aj (.slice A' (m.frames.take k).length c') (m.frames.take k),am g1 [.slice a.Af m.frames.length a.cf,.slice a.Ab m.blocks.length a.cb,.slice a.Ai m.inn.length a.ci,.slice a.Ao m.out.length a.co,.int .i64 m.status,.int .i64 m.trap] 29,am g2 [.slice none 0 0,.slice none 0 0,.slice none 0 0,.slice none 0 0,.int .i64 0,.int .i64 0] 29,aj (.slice Ab m.blocks.length cb) m.blocks,aj (.slice Ai m.inn.length ci) m.inn,aj (.slice Ao m.out.length co) m.out,am g3 [.slice A' (m.frames.take k).length c',.slice Ab m.blocks.length cb,.slice Ai m.inn.length ci,.slice Ao m.out.length co,.int .i64 m.status,.int .i64 m.trap] 29]) ?_ ?_
  ·refine bQ (.still 1 (.still 2 (.still 5 (.still 6 (.pick 0 (.pick 3 (.calm 8 (.pick 4 (.pick 7 (.pick 9 (.calm 10 (.pick 11 .done .stop)) .stop) .stop) .stop)) (.pick 4 (.pick 3 (.calm 8 (.pick 7 (.pick 9 (.calm 10 (.pick 11 .done .stop)) .stop) .stop)) .stop) .stop)) (.pick 4 (.pick 0 (.pick 3 (.calm 8 (.pick 7 (.pick 9 (.calm 10 (.pick 11 .done .stop)) .stop) .stop)) .stop) .stop) .stop)))))) [7,8,9,10,11] rfl (by kernel_rfl) (by kernel_rfl) ?_
   refine aV ha 1 [1,2,3,4,5,35] rfl<|an rfl (ai fc a9 rfl rfl (by rfl)) rfl rfl ha ?_
   refine aV ha 1 [1,2,3,4,5,36,39] rfl<|an rfl (ai fc a9 rfl rfl (by rfl)) rfl rfl ha ?_
   refine aB rfl ((bh (cs:= []) az aE bu rfl rfl rfl rfl rfl).mem (H'':=fun g=>aj (.slice (some ⟨g,0,none⟩) 0 0) ([]:List aS)::_) fun g w h=>cA (α:=aS) (m:=0) [] rfl (by simp) rfl (by decide) h) rfl rfl (.inr fun _=>ha) (fun ge _=>?_) ?_
   ·refine aB rfl (dy (α:=aS) (bytes:=16) (xs:= []) (ys:=(bg m.frames k).locals) (List.nil_append _).symm az (bM dk) rfl fc (.ro hl) (by simp only[List.length_nil];omega) (by simp only[List.length_nil];omega) rfl rfl rfl) rfl rfl (.inr fun _=>ha) (fun⟨A3,c3⟩ _=>?_) ?_
    ·try dsimp only
     refine dZ 1 [1,2,3,4,5,37,40,42] rfl<|aB rfl ((bh (cs:= []) az aE bu rfl rfl rfl rfl rfl).mem (H'':=fun g=>aj (.slice (some ⟨g,0,none⟩) 0 0) ([]:List aS)::_) fun g w h=>cA (α:=aS) (m:=0) [] rfl (by simp) rfl (by decide) h) rfl rfl (.inr fun _=>ha) (fun gf _=>?_) ay
     refine aB rfl (dy (α:=aS) (bytes:=16) (xs:= []) (ys:=(bg m.frames k).stack) (List.nil_append _).symm az (bM dk) rfl fc (.ro hst) (by simp only[List.length_nil];omega) (by simp only[List.length_nil];omega) rfl rfl rfl) rfl rfl (.inl rfl) (fun⟨A4,c4⟩ _=>?_) ay
     try dsimp only
     refine aB rfl (aH _ fc dd rfl rfl rfl rfl rfl (by rfl) rfl (by rfl)) rfl rfl (.inl rfl) (fun _ _=>?_) ay
     refine dZ 1 [1,2,3,4,5,41,43] rfl<|aB rfl (aH _ fc dd rfl rfl rfl rfl rfl (by rfl) rfl (by rfl)) rfl rfl (.inl rfl) (fun _ _=>?_) ay
     refine ck<|aY ((A3,c3),(A4,c4)) (trivial) ⟨rfl,rfl,rfl,rfl,rfl,trivial⟩ (fun _ h=>h.msub ms)
    refine aB rfl ((bh (cs:= []) az aE bu rfl rfl rfl rfl rfl).mem (H'':=fun g=>aj (.slice (some ⟨g,0,none⟩) 0 0) ([]:List aS)::_) fun g w h=>cA (α:=aS) (m:=0) [] rfl (by simp) rfl (by decide) h) rfl rfl (.inr fun _=>ha) (fun gf _=>?_) ay
    refine aB rfl (dy (α:=aS) (bytes:=16) (xs:= []) (ys:=(bg m.frames k).locals) (List.nil_append _).symm az (bM dk) rfl fc (.ro hl) (by simp only[List.length_nil];omega) (by simp only[List.length_nil];omega) rfl rfl rfl) rfl rfl (.inr fun _=>ha) (fun⟨A3,c3⟩ _=>?_) ay
    try dsimp only
    refine dZ 1 [1,2,3,4,5,37,38,40,42] rfl<|aB rfl (dy (α:=aS) (bytes:=16) (xs:= []) (ys:=(bg m.frames k).stack) (List.nil_append _).symm az (bM dk) rfl fc (.ro hst) (by simp only[List.length_nil];omega) (by simp only[List.length_nil];omega) rfl rfl rfl) rfl rfl (.inl rfl) (fun⟨A4,c4⟩ _=>?_) ay
    try dsimp only
    refine aB rfl (aH _ fc dd rfl rfl rfl rfl rfl (by rfl) rfl (by rfl)) rfl rfl (.inl rfl) (fun _ _=>?_) ay
    refine dZ 1 [1,2,3,4,5,41,43] rfl<|aB rfl (aH _ fc dd rfl rfl rfl rfl rfl (by rfl) rfl (by rfl)) rfl rfl (.inl rfl) (fun _ _=>?_) ay
    refine ck<|aY ((A3,c3),(A4,c4)) (trivial) ⟨rfl,rfl,rfl,rfl,rfl,trivial⟩ (fun _ h=>h.msub ms)
   refine aB rfl ((bh (cs:= []) az aE bu rfl rfl rfl rfl rfl).mem (H'':=fun g=>aj (.slice (some ⟨g,0,none⟩) 0 0) ([]:List aS)::_) fun g w h=>cA (α:=aS) (m:=0) [] rfl (by simp) rfl (by decide) h) rfl rfl (.inr fun _=>ha) (fun gf _=>?_) ay
   refine aB rfl ((bh (cs:= []) az aE bu rfl rfl rfl rfl rfl).mem (H'':=fun g=>aj (.slice (some ⟨g,0,none⟩) 0 0) ([]:List aS)::_) fun g w h=>cA (α:=aS) (m:=0) [] rfl (by simp) rfl (by decide) h) rfl rfl (.inr fun _=>ha) (fun ge _=>?_) ay
   refine aB rfl (dy (α:=aS) (bytes:=16) (xs:= []) (ys:=(bg m.frames k).locals) (List.nil_append _).symm az (bM dk) rfl fc (.ro hl) (by simp only[List.length_nil];omega) (by simp only[List.length_nil];omega) rfl rfl rfl) rfl rfl (.inr fun _=>ha) (fun⟨A3,c3⟩ _=>?_) ay
   try dsimp only
   refine dZ 1 [1,2,3,4,5,37,38,40,42] rfl<|aB rfl (dy (α:=aS) (bytes:=16) (xs:= []) (ys:=(bg m.frames k).stack) (List.nil_append _).symm az (bM dk) rfl fc (.ro hst) (by simp only[List.length_nil];omega) (by simp only[List.length_nil];omega) rfl rfl rfl) rfl rfl (.inl rfl) (fun⟨A4,c4⟩ _=>?_) ay
   try dsimp only
   refine aB rfl (aH _ fc dd rfl rfl rfl rfl rfl (by rfl) rfl (by rfl)) rfl rfl (.inl rfl) (fun _ _=>?_) ay
   refine dZ 1 [1,2,3,4,5,41,43] rfl<|aB rfl (aH _ fc dd rfl rfl rfl rfl rfl (by rfl) rfl (by rfl)) rfl rfl (.inl rfl) (fun _ _=>?_) ay
   refine ck<|aY ((A3,c3),(A4,c4)) (trivial) ⟨rfl,rfl,rfl,rfl,rfl,trivial⟩ (fun _ h=>h.msub ms)
  rintro⟨⟨A3,c3⟩,⟨A4,c4⟩⟩ _
  try dsimp only
  refine aa<|rn 1 [1,2,3,4,5,44] rfl<|af (ai fc cd rfl rfl (by rfl)) rfl rfl ?_
  refine af (aQ (vs:= [_,_,_,_]) fc gJ bG rfl rfl (by rfl) rfl) rfl rfl ?_
  refine ag (bh (cs:= [_,_,_,_]) a6 bG df rfl rfl rfl rfl rfl) rfl rfl (fun g5 _=>?_)
  refine ag (dm (α:=aW) (bytes:=64) (bg m.frames k) [aj (.slice A3 (bg m.frames k).locals.length c3) (bg m.frames k).locals,aj (.slice A4 (bg m.frames k).stack.length c4) (bg m.frames k).stack] htk a6 (bM j7) rfl (Bt fc fc fc fc) (tO hi) (by omega) (by omega) rfl rfl rfl) rfl rfl (fun⟨A5,c5⟩ _=>?_)
  try dsimp only
  refine rn 1 [1,2,3,4,48,49] rfl<|ag (aH _ fc fA rfl rfl rfl rfl rfl (by rfl) rfl (by rfl)) rfl rfl (fun _ _=>?_)
  refine bE (aK (ap ?_))
  refine aa<|rn 1 [1,2,3,27] rfl<|af (bH rfl rfl rfl (by omega)) rfl rfl<|rn 1 [1,2,3,4] rfl<|br (k+1,A5,c5) (by show k+1≤_;omega) (by show _ - _<_ - _;omega) ⟨rfl,rfl,rfl,rfl,trivial⟩ me
 obtain rfl:k=m.frames.length:=by omega
 rw[List.take_length]
 refine bN (aM (aM (cc (ap ?_))))
 refine ac<|aa<|af (aQ (vs:= [_,_,_,_,_,_]) fc bd aF rfl rfl (by rfl) rfl) rfl rfl ?_
 refine ag (aH _ fc aF rfl rfl rfl rfl rfl (by rfl) rfl (by rfl)) rfl rfl (fun _ _=>?_)
 refine ae<|au<|aA Tryz.results75 (dp (cs:= [_,_,_,_,_,_]) fc bd aF rfl) ?_
 intro w hw
 exact⟨⟨A',c',Ab,cb,Ai,ci,Ao,co⟩,trivial,rfl,hw.msub ms⟩
end
section
theorem kI {z:Int} (h:cu z=true):aX z:=by
 unfold cu at h
 simp only[Bool.and_eq_true,decide_eq_true_eq] at h
 unfold aX
 omega
theorem is (z:Int):aX (cF z).n:=kI (qD z)
set_option maxRecDepth 100000 in
theorem il (z:Int) (hz:aX z) (w:World):Calls Tryz.prog 77 #[.int .i64 z] w fun e w'=>e= .returned (.agg #[.bool (cF z).ref,.int .i64 (cF z).n])∧Below w.heap.size w w':=by
 refine enter Tryz.func77 rfl Tryz.ntmps77 rfl ?_
 refine ac<|aa<|ag (aZ bu rfl rfl) rfl rfl (fun g1 _=>?_)
 refine ae<|ac<|aa<|rn 1 [2,3] rfl<|ag (bK rfl rfl rfl Tryz.call78 (fun w hw=>(xT z w hz).mono fun e w' h=>by obtain⟨h1,rfl⟩:=h;exact⟨h1,Below.refl _ _⟩)) rfl rfl (fun _ _=>?_)
 refine af (cT (cs:= [_,_]) kY bu rfl rfl (by rfl)) rfl rfl ?_
 refine ag (aH _ fc aE rfl rfl rfl rfl rfl (by rfl) rfl (by rfl)) rfl rfl (fun _ _=>?_)
 refine ae<|au<|aA Tryz.results77 (dp (cs:= [_,_]) fc dr aE rfl) ?_
 intro w hw
 exact⟨rfl,hw.below⟩
section
variable {B:Nat} {w0:World} {H:List bj}
set_option maxRecDepth 100000 in
set_option maxHeartbeats 1000000 in
theorem ls (gs gn go n nb:Nat) (As Ab:Option Addr) (cs cb:Nat) (x0 x2 x3 x4 x5:Value) (s:List aS) (bs:List (List Int)) (back:Nat) (v:aS) (hn:s.length=n) (hnb:bs.length=nb) (hb:1≤back∧back≤n) (hvs:s.getD (n - back) default=v) (hv:0≤v.n∧v.n≤bs.length) (w:World)
  (hw:Cw B w0 (am go [x0,.slice Ab nb cb,x2,x3,x4,x5] 29::am gs [.slice As n cs] 95::am gn [.int .i64 (n:Int)] 3::aj (.slice As n cs) s::aj (.slice Ab nb cb) bs::H) w) :
  Calls Tryz.prog 79 #[.int .i64 (back:Int),.pointer (some ⟨gs,0,none⟩),.pointer (some ⟨gn,0,none⟩),.pointer (some ⟨go,0,none⟩)] w fun e w'=>
   ∃g:Option Addr×Nat,True∧e= .returned (.tuple #[.slice g.1 (if v.n=0 then 0 else (blk bs v.n).length) g.2,.bool (!decide (v.n=0))])∧Cw B w0 (am go [x0,.slice Ab nb cb,x2,x3,x4,x5] 29::am gs [.slice As n cs] 95::am gn [.int .i64 (n:Int)] 3::aj (.slice As n cs) s::(if v.n=0 then aj (.slice Ab nb cb) bs else nX (.slice Ab nb cb) bs (v.n - 1).toNat (.slice g.1 (blk bs v.n).length g.2))::H) w':=by
 have b1:n≤140737488355328:=bO (SF.at_ (SF.own (xs:=s) hn (.s (.s (.s .a)))) hw)
 have hvb:0≤(s.getD (n - back) default).n∧(s.getD (n - back) default).n≤nb:=by rw[hvs];omega
 have b2:nb≤140737488355328:=bO (SF.at_ (SF.own (xs:=bs) hnb (.s (.s (.s (.s .a))))) hw)
 refine db Tryz.func79 rfl Tryz.ntmps79 rfl hw ?_
 refine ac<|aa<|rn 2 [0,1,2,3] rfl<|ae<|ac<|ac<|aa<|af (ai fc a9 rfl rfl (by rfl)) rfl rfl ?_
 refine af (ai fc ar rfl rfl (by rfl)) rfl rfl ?_
 refine rn 1 [0,1,2,3,7,8,9] rfl<|af (bx rfl rfl rfl (by omega)) rfl rfl<|bA (t:=10) (v':= .int .i64 ((n - back:Nat):Int)) rfl (by congr 1;omega) ?_
 refine af (aO (k:=(n - back)) az aE (SF.own (xs:=s) hn fc) (by omega) rfl rfl rfl) rfl rfl ?_
 refine rn 1 [0,1,2,3,12] rfl<|af (a8 (fun w hw=>(SF.val (SF.own (xs:=s) hn fc) (show n - back<n by omega) default) w hw 1 _ rfl) rfl rfl ar) rfl rfl ?_
 refine rn 1 [0,1,2,3,14] rfl<|ae ?_
 rw[hvs]
 refine aw rfl (fun h0=>?_) (fun h0=>?_)
 ·have h0:v.n=0:=h0
  refine ac<|aa<|rn 2 [5,6] rfl<|ae<|au (ak ?_)
  refine bD Tryz.results79 (aq rfl) (aq rfl) ?_
  intro w hw
  refine⟨(none,0),trivial,?_,?_⟩
  ·rw[if_pos h0,decide_eq_true h0];rfl
  rw[if_pos h0];exact hw.msub ms
 obtain⟨k,hk⟩:∃k:Nat,(v.n - 1).toNat=k:=⟨_,rfl⟩
 have h0:¬v.n=0:=h0
 refine za (A:=Ab) (m:=nb) (c:=cb) (xs:=bs) k fc (by omega) fun A' c'=>?_
 refine ax (ap ?_)
 refine ac<|e8 (.still 0 (.still 1 (.still 2 (.still 3 (.still 4 (.still 5 (.still 6 (.still 7 (.still 8 (.still 9 (.still 10 (.still 11 (.still 12 (.still 13 .done)))))))))))))) [] rfl (by kernel_rfl) (by kernel_rfl) [nX (.slice Ab nb cb) bs k (.slice A' (bs.getD k []).length c'),am go [x0,.slice Ab nb cb,x2,x3,x4,x5] 29,am gs [.slice As n cs] 95,am gn [.int .i64 (n:Int)] 3,aj (.slice As n cs) s] ?_
 refine aV ha 1 [0,1,2,15] rfl<|an rfl (ai fc ew rfl rfl (by rfl)) rfl rfl ha ?_
 refine an rfl (ai fc a9 rfl rfl (by rfl)) rfl rfl ha ?_
 refine an rfl (ai fc ar rfl rfl (by rfl)) rfl rfl ha ?_
 refine aV ha 1 [16,17,18,19] rfl<|an rfl (bx rfl rfl rfl (by omega)) rfl rfl ha ?_
 refine dh (t:=20) (v':= .int .i64 ((n - back:Nat):Int)) rfl (by congr 1;omega) ?_
 refine an rfl (aO (k:=(n - back)) az aE (SF.own (xs:=s) hn fc) (by omega) rfl rfl rfl) rfl rfl ha ?_
 refine aV ha 1 [16,22] rfl<|an rfl (a8 (fun w hw=>(SF.val (SF.own (xs:=s) hn fc) (show n - back<n by omega) default) w hw 1 _ rfl) rfl rfl ar) rfl rfl ha ?_
 refine an rfl (bx rfl rfl rfl (by omega)) rfl rfl ha ?_
 rw[hvs]
 refine dh (t:=24) (v':= .int .i64 (k:Int)) rfl (by congr 1;omega) ?_
 refine an rfl (aO (k:=k) cy bV (SF.rino hnb fc) (by omega) rfl rfl rfl) rfl rfl ha ?_
 refine an rfl (tm fc a5 rfl rfl) rfl rfl ha ?_
 refine aV ha 2 [5,6] rfl<|cJ<|au<|bD Tryz.results79 (aq rfl) (aq rfl) ?_
 intro w hw
 refine⟨(A',c'),trivial,?_,?_⟩
 ·rw[if_neg h0,decide_eq_false h0];unfold blk;rw[hk];rfl
 rw[if_neg h0];unfold blk;rw[hk];exact hw.msub ms
end
set_option maxRecDepth 100000 in
set_option maxHeartbeats 1000000 in
theorem fP (a:MA) (m:aD) (why:Int) (_:1≤why∧why≤5) (w:World) (hm:gk w.heap.size w a m) (hfit:rC m) :
  Calls Tryz.prog 80 #[.agg #[.slice a.Af m.frames.length a.cf,.slice a.Ab m.blocks.length a.cb,.slice a.Ai m.inn.length a.ci,.slice a.Ao m.out.length a.co,.int .i64 m.status,.int .i64 m.trap],.int .i64 why] w fun e w'=> ∃g:MA,True∧
   e= .returned (.agg #[.slice g.Af m.frames.length g.cf,.slice g.Ab m.blocks.length g.cb,.slice g.Ai m.inn.length g.ci,.slice g.Ao m.out.length g.co,.int .i64 3,.int .i64 why])∧
   Cw w.heap.size w [aj (.slice g.Af m.frames.length g.cf) m.frames,aj (.slice g.Ab m.blocks.length g.cb) m.blocks,aj (.slice g.Ai m.inn.length g.ci) m.inn,aj (.slice g.Ao m.out.length g.co) m.out] w':=by
 refine enter Tryz.func80 rfl Tryz.ntmps80 rfl ?_
 refine ac<|aa<|ag (bF rfl rfl rfl) rfl rfl (fun g1 _=>?_)
 refine ag (aZ bW rfl rfl) rfl rfl (fun g2 _=>?_)
 refine ae<|ac<|aa<|af (aQ (vs:= [_,_,_,_,_,_]) fc bd aF rfl rfl (by rfl) rfl) rfl rfl ?_
 refine ag (cO rfl rfl rfl xG (fun w hw=>jX a m w (hm.ro hw) hfit)) rfl rfl (fun ga _=>?_)
 refine ag (aZ bW rfl rfl) rfl rfl (fun g3 _=>?_)
 refine ag (aH _ fc aF rfl rfl rfl rfl rfl (by rfl) rfl (by rfl)) rfl rfl (fun _ _=>?_)
 refine ae<|ac<|aa<|rn 2 [4,5,8,9] rfl<|ag (aH _ fc aI rfl rfl rfl rfl rfl (by rfl) rfl (by rfl)) rfl rfl (fun _ _=>?_)
 refine rn 1 [4,5,8,10] rfl<|ag (aH _ fc aI rfl rfl rfl rfl rfl (by rfl) rfl (by rfl)) rfl rfl (fun _ _=>?_)
 refine ae<|ac<|aa<|af (aQ (vs:= [_,_,_,_,_,_]) fc bd aF rfl rfl (by rfl) rfl) rfl rfl ?_
 refine ag (aH _ fc aF rfl rfl rfl rfl rfl (by rfl) rfl (by rfl)) rfl rfl (fun _ _=>?_)
 refine ae<|au<|aA Tryz.results80 (dp (cs:= [_,_,_,_,_,_]) fc bd aF rfl) ?_
 intro w hw
 exact⟨ga,trivial,rfl,hw.msub ms⟩
end
section
theorem la (s:List aS):dl s <+: s:=List.dropLast_prefix s
theorem na (s:List aS):dl (dl s) <+: s:=(la _).trans (la _)
theorem CL (s:List aS):dl (dl (dl s)) <+: s:=(la _).trans (na _)
theorem ph (s:List aS):(dl (dl s)).length=s.length - 2:=by rw[fT,fT];omega
theorem CM (s:List aS):(dl (dl (dl s))).length=s.length - 3:=by rw[fT,fT,fT];omega
section
variable {P:Program} {n:NF} {B:Nat} {w0:World} {H H':List bj} {Q:Exit→Act→World→Prop} {env:de} {x:Code} {ops:Array Oper} {os:List Oper} {Hq:List bj} {fin:List Nat} {r:gN}
theorem rr {α:Type} [Ow α] {A:Option Addr} {c:Nat} {s t:List α} (ht:t <+: s) {w:World} (h:Cw B w0 (aj (.slice A s.length c) s::H) w):Cw B w0 (aj (.slice A t.length c) t::H) w:=by
 have:=mQ (k:=t.length) ht.length_le h
 rwa [←List.prefix_iff_eq_take.1 ht] at this
theorem mS {α:Type} [Ow α] {A:Option Addr} {c:Nat} {s:List α} (t:List α) (hp:cC H (aj (.slice A s.length c) s) H') (ht:t <+: s) (h:RW P n B w0 ops Q os env (aj (.slice A t.length c) t::H')):RW P n B w0 ops Q os env H:=iD (fun _ hw=>rr ht (hw.perm hp)) h
theorem qo {α:Type} [Ow α] {A:Option Addr} {c:Nat} {s:List α} (t:List α) (hp:cC H (aj (.slice A s.length c) s) H') (ht:t <+: s) (h:RO P n B w0 ops Q Hq fin r env (aj (.slice A t.length c) t::H')):RO P n B w0 ops Q Hq fin r env H:=qp (fun _ hw=>rr ht (hw.perm hp)) h
end
theorem DL {s:List aS} (h:1≤s.length):dl s++ [aP s,aP s]=s++ [aP s]:=by
 obtain⟨a,v1,rfl⟩:=dx (l:=s) h
 rw[dB,cU,List.append_assoc]
 rfl
theorem rg {s:List aS} (h:2≤s.length):(s.set (s.length - 1) (aP (dl s))).set (s.length - 2) (aP s)=dl (dl s)++ [aP s,aP (dl s)]:=by
 obtain⟨a0,v1,rfl⟩:=dx (l:=s) (by omega)
 obtain⟨a,v2,rfl⟩:=dx (l:=a0) (by rw[List.length_append,List.length_singleton] at h;omega)
 rw[cU,dB,cU,dB,List.append_assoc]
 have e:(a++([v2]++ [v1])).length=a.length+2:=by simp
 rw[e,List.set_append_right _ _ (by omega),List.set_append_right _ _ (by omega),show a.length+2 - 1 - a.length=1 from by omega,show a.length+2 - 2 - a.length=0 from by omega]
 rfl
theorem lE {s:List aS} (h:1≤s.length) (v:aS):s.set (s.length - 1) v=dl s++ [v]:=by
 obtain⟨a,v1,rfl⟩:=dx (l:=s) h
 rw[dB,List.length_append,List.length_singleton,pL a v1 v (by omega)]
structure jm (B:Nat) (w0:World) (fs:List aC) (m:aD) (a:MA) (li:List (aT×aW)) (k:Nat) (Ap:Option Addr) (cp:Nat) (f p0 p1:Int) (l s:List aS) (o:cn) (fr:Int):Prop where
 hk:li.length=k
 hok:fu li
 hp:bX w0 B (.slice Ap fs.length cp) fs
 hm:gk B w0 a m
 fit:rC m
 nd:nO fs m.blocks.length ⟨f,p1,l,s⟩ o
 bl:cK m.blocks=0
 sl:s.length≤900
 ol:m.out.length≤1000
 k6:k≤1000
 hst:∀q∈li,q.2.stack.length≤1000
 oa:aX o.a
 pi:aX f∧aX p0∧aX p1
 si:∀v∈s,aX v.n
 lv:∀v∈l,aX v.n
 hms:aX m.status
 fn:0≤f∧f<fs.length∧fr=(av fs f.toNat).result∧0≤fr
 mf:m.frames.length=k+1
 isn:o.c=19→0≤(aP s).n∧(aP s).n≤m.blocks.length
 of:be fs m=o
 fs:m.frames=li.map Prod.snd++ [⟨f,p0,l,s⟩]
 ib:m.inn.length≤1000
 ii:∀z∈m.inn,aX z
 sI:∀v∈s,v.n≤2147483647
section
variable {B:Nat} {w0:World} {Q:Exit→Act→World→Prop} (gp gm gr go gc gf gs gn k:Nat) (li:List (aT×aW)) (A Al As Ap Ab Ai Ao:Option Addr) (c cl cs cp cb ci co:Nat) (a:MA) (m:aD) (f p0 p1 fr:Int) (l s:List aS) (o:cn) (fs:List aC) (rz:List Value) (fx0 fx1 fx3:Value) (hrz:rz.length=6)
set_option maxRecDepth 100000 in
set_option maxHeartbeats 2000000 in
theorem E9 (R:jm B w0 fs m a li k Ap cp f p0 p1 l s o fr) (hc:o.c=1) (K:∀(s':List aS) (As':Option Addr) (cs':Nat) (l':List aS) (b':List (List Int)) (Ab':Option Addr) (cb':Nat) (i':List Int) (Ai':Option Addr) (ci':Nat) (o':List Int) (Ao':Option Addr) (co':Nat) (st' nx:Int),aX nx∧aX st'→bP fs m (li.map Prod.snd) ⟨f,p1,l,s⟩ o= .inr ⟨li.map Prod.snd++ [⟨f,nx,l',s'⟩],b',i',o',st',m.trap⟩→XW ⟨551,[]⟩ B w0 Q .normal [(4,.pointer (some ⟨gr,0,none⟩)),(5,.pointer (some ⟨go,0,none⟩)),(6,.pointer (some ⟨ab A,ao A+k*4,none⟩)),(9,.pointer (some ⟨gs,0,none⟩)),(13,.int .i64 nx)] (am gs [.slice As' s'.length cs'] 95::aj (.slice As' s'.length cs') s'::am gr rz 29::am go [.slice A (k+1) c,.slice Ab' b'.length cb',.slice Ai' i'.length ci',.slice Ao' o'.length co',.int .i64 st',.int .i64 m.trap] 29::aj (.slice A (k+1) c) (li.map Prod.fst++ [(⟨f,p0,.slice Al l'.length cl,.slice As s.length cs⟩:aT)])::aj (.slice Al l'.length cl) l'::cR li::aj (.slice Ab' b'.length cb') b'::aj (.slice Ai' i'.length ci') i'::aj (.slice Ao' o'.length co') o':: [])):CW Tryz.prog ⟨551,[]⟩ B w0 (iF [true,true,true,true,true,true,true,true,true,true,true,false,true,false,true,false] (eY Tryz.f25)) Q [(4,.pointer (some ⟨gr,0,none⟩)),(5,.pointer (some ⟨go,0,none⟩)),(6,.pointer (some ⟨ab A,ao A+k*4,none⟩)),(7,.pointer (some ⟨gc,0,none⟩)),(9,.pointer (some ⟨gs,0,none⟩)),(11,.func (.func 77) #[] #[]),(13,.int .i64 p1)] [am gs [.slice As s.length cs] 95,aj (.slice As s.length cs) s,am gp [.slice Ap fs.length cp] 24,am gm [.slice a.Af m.frames.length a.cf,.slice a.Ab m.blocks.length a.cb,.slice a.Ai m.inn.length a.ci,.slice a.Ao m.out.length a.co,.int .i64 m.status,.int .i64 m.trap] 29,am gr rz 29,am go [.slice A (k+1) c,.slice Ab m.blocks.length cb,.slice Ai m.inn.length ci,.slice Ao m.out.length co,.int .i64 m.status,.int .i64 m.trap] 29,am gc [.int .i64 o.c,.int .i64 o.a] 49,am gf [fx0,fx1,.int .i64 fr,fx3] 110,am gn [.int .i64 (s.length:Int)] 3,aj (.slice A (k+1) c) (li.map Prod.fst++ [(⟨f,p0,.slice Al l.length cl,.slice As s.length cs⟩:aT)]),aj (.slice Al l.length cl) l,cR li,aj (.slice Ab m.blocks.length cb) m.blocks,aj (.slice Ai m.inn.length ci) m.inn,aj (.slice Ao m.out.length co) m.out]:=by
 have hsl:=R.sl
 refine bQ (.still 0 (.still 1 (.still 2 (.still 3 (.pick 4 (.pick 5 (.pick 6 (.pick 7 .done .stop) .stop) .stop) .stop))))) [6,7] rfl (by kernel_rfl) (by kernel_rfl) ?_
 refine an rfl (ai fc a9 rfl rfl (by rfl)) rfl rfl ha ?_
 refine aV ha 2 [4,5,6,9,13,68,69,70] rfl<|an rfl (ai fc ar rfl rfl (by rfl)) rfl rfl ha ?_
 refine aB rfl (hJ rfl rfl rfl lm (fun w hw=>il o.a R.oa w)) rfl rfl (.inr fun _=>ha) (fun _ _=>?_) ay
 refine aB rfl (bh (cs:= [_,_]) az aE bu rfl rfl rfl rfl rfl) rfl rfl (.inr fun _=>ha) (fun g1 _=>?_) ay
 refine aB rfl (dm (α:=aS) (bytes:=16) (cF o.a) [] rfl az (bM dk) rfl (eA fc fc) (dI (is _)) (by omega) (by omega) rfl rfl rfl) rfl rfl (.inl rfl) (fun⟨A3,c3⟩ _=>?_) ay
 try dsimp only
 refine aB rfl (aH _ fc dd rfl rfl rfl rfl rfl (by rfl) rfl (by rfl)) rfl rfl (.inl rfl) (fun _ _=>?_) ay
 refine ck<|dY (K (s++ [cF o.a]) A3 c3 l m.blocks Ab cb m.inn Ai ci m.out Ao co m.status p1 ⟨R.pi.2.2,R.hms⟩ (by dsimp only[bP];rw[if_pos hc])) ⟨rfl,rfl,rfl,rfl,rfl,trivial⟩ me
theorem pE (z:Int):aX (IntKind.i64.wrap z):=by
 rw[IntWalk.i64_left]
 unfold wrap64 aX
 omega
set_option maxRecDepth 100000 in
set_option maxHeartbeats 2000000 in
theorem E8 (R:jm B w0 fs m a li k Ap cp f p0 p1 l s o fr) (hc:o.c=2) (K:∀(s':List aS) (As':Option Addr) (cs':Nat) (l':List aS) (b':List (List Int)) (Ab':Option Addr) (cb':Nat) (i':List Int) (Ai':Option Addr) (ci':Nat) (o':List Int) (Ao':Option Addr) (co':Nat) (st' nx:Int),aX nx∧aX st'→bP fs m (li.map Prod.snd) ⟨f,p1,l,s⟩ o= .inr ⟨li.map Prod.snd++ [⟨f,nx,l',s'⟩],b',i',o',st',m.trap⟩→XW ⟨551,[]⟩ B w0 Q .normal [(4,.pointer (some ⟨gr,0,none⟩)),(5,.pointer (some ⟨go,0,none⟩)),(6,.pointer (some ⟨ab A,ao A+k*4,none⟩)),(9,.pointer (some ⟨gs,0,none⟩)),(13,.int .i64 nx)] (am gs [.slice As' s'.length cs'] 95::aj (.slice As' s'.length cs') s'::am gr rz 29::am go [.slice A (k+1) c,.slice Ab' b'.length cb',.slice Ai' i'.length ci',.slice Ao' o'.length co',.int .i64 st',.int .i64 m.trap] 29::aj (.slice A (k+1) c) (li.map Prod.fst++ [(⟨f,p0,.slice Al l'.length cl,.slice As s.length cs⟩:aT)])::aj (.slice Al l'.length cl) l'::cR li::aj (.slice Ab' b'.length cb') b'::aj (.slice Ai' i'.length ci') i'::aj (.slice Ao' o'.length co') o':: [])):CW Tryz.prog ⟨551,[]⟩ B w0 (iF [true,true,true,true,true,true,true,true,true,true,true,false,true,false,true,true,true,false] (eY Tryz.f25)) Q [(4,.pointer (some ⟨gr,0,none⟩)),(5,.pointer (some ⟨go,0,none⟩)),(6,.pointer (some ⟨ab A,ao A+k*4,none⟩)),(9,.pointer (some ⟨gs,0,none⟩)),(10,.pointer (some ⟨gn,0,none⟩)),(13,.int .i64 p1)] [am gs [.slice As s.length cs] 95,aj (.slice As s.length cs) s,am gp [.slice Ap fs.length cp] 24,am gm [.slice a.Af m.frames.length a.cf,.slice a.Ab m.blocks.length a.cb,.slice a.Ai m.inn.length a.ci,.slice a.Ao m.out.length a.co,.int .i64 m.status,.int .i64 m.trap] 29,am gr rz 29,am go [.slice A (k+1) c,.slice Ab m.blocks.length cb,.slice Ai m.inn.length ci,.slice Ao m.out.length co,.int .i64 m.status,.int .i64 m.trap] 29,am gc [.int .i64 o.c,.int .i64 o.a] 49,am gf [fx0,fx1,.int .i64 fr,fx3] 110,am gn [.int .i64 (s.length:Int)] 3,aj (.slice A (k+1) c) (li.map Prod.fst++ [(⟨f,p0,.slice Al l.length cl,.slice As s.length cs⟩:aT)]),aj (.slice Al l.length cl) l,cR li,aj (.slice Ab m.blocks.length cb) m.blocks,aj (.slice Ai m.inn.length ci) m.inn,aj (.slice Ao m.out.length co) m.out]:=by
 have hsl:=R.sl
 have h1:1≤s.length:=R.nd.one (.inl hc)
 have hd:=fT s
 refine dD (fun w h=>eK h (xs:=s) (.s .a)) fun hcap=>?_
 refine aa<|af (ai fc a9 rfl rfl (by rfl)) rfl rfl ?_
 refine af (ai fc ar rfl rfl (by rfl)) rfl rfl ?_
 refine af (bx rfl rfl rfl (by omega)) rfl rfl<|bA (t:=79) (v':= .int .i64 ((dl s).length:Int)) rfl (by congr 1;omega) ?_
 refine af (fC (k:=(dl s).length) az aE (by omega) rfl rfl rfl) rfl rfl<|ag (aH _ fc dd rfl rfl rfl rfl rfl (by rfl) rfl (by rfl)) rfl rfl (fun _ _=>?_)
 refine mS (dl s) fc (la s) ?_
 refine bE<|dY (K (dl s) As cs l m.blocks Ab cb m.inn Ai ci m.out Ao co m.status p1 ⟨R.pi.2.2,R.hms⟩ (by dsimp only[bP];rw[if_neg (by omega),if_pos hc])) ⟨rfl,rfl,rfl,rfl,rfl,trivial⟩ me
set_option maxRecDepth 100000 in
set_option maxHeartbeats 2000000 in
theorem E7 (R:jm B w0 fs m a li k Ap cp f p0 p1 l s o fr) (hc:o.c=3) (K:∀(s':List aS) (As':Option Addr) (cs':Nat) (l':List aS) (b':List (List Int)) (Ab':Option Addr) (cb':Nat) (i':List Int) (Ai':Option Addr) (ci':Nat) (o':List Int) (Ao':Option Addr) (co':Nat) (st' nx:Int),aX nx∧aX st'→bP fs m (li.map Prod.snd) ⟨f,p1,l,s⟩ o= .inr ⟨li.map Prod.snd++ [⟨f,nx,l',s'⟩],b',i',o',st',m.trap⟩→XW ⟨551,[]⟩ B w0 Q .normal [(4,.pointer (some ⟨gr,0,none⟩)),(5,.pointer (some ⟨go,0,none⟩)),(6,.pointer (some ⟨ab A,ao A+k*4,none⟩)),(9,.pointer (some ⟨gs,0,none⟩)),(13,.int .i64 nx)] (am gs [.slice As' s'.length cs'] 95::aj (.slice As' s'.length cs') s'::am gr rz 29::am go [.slice A (k+1) c,.slice Ab' b'.length cb',.slice Ai' i'.length ci',.slice Ao' o'.length co',.int .i64 st',.int .i64 m.trap] 29::aj (.slice A (k+1) c) (li.map Prod.fst++ [(⟨f,p0,.slice Al l'.length cl,.slice As s.length cs⟩:aT)])::aj (.slice Al l'.length cl) l'::cR li::aj (.slice Ab' b'.length cb') b'::aj (.slice Ai' i'.length ci') i'::aj (.slice Ao' o'.length co') o':: [])):CW Tryz.prog ⟨551,[]⟩ B w0 (iF [true,true,true,true,true,true,true,true,true,true,true,false,true,false,true,true,true,true,true,false] (eY Tryz.f25)) Q [(4,.pointer (some ⟨gr,0,none⟩)),(5,.pointer (some ⟨go,0,none⟩)),(6,.pointer (some ⟨ab A,ao A+k*4,none⟩)),(9,.pointer (some ⟨gs,0,none⟩)),(10,.pointer (some ⟨gn,0,none⟩)),(13,.int .i64 p1)] [am gs [.slice As s.length cs] 95,aj (.slice As s.length cs) s,am gp [.slice Ap fs.length cp] 24,am gm [.slice a.Af m.frames.length a.cf,.slice a.Ab m.blocks.length a.cb,.slice a.Ai m.inn.length a.ci,.slice a.Ao m.out.length a.co,.int .i64 m.status,.int .i64 m.trap] 29,am gr rz 29,am go [.slice A (k+1) c,.slice Ab m.blocks.length cb,.slice Ai m.inn.length ci,.slice Ao m.out.length co,.int .i64 m.status,.int .i64 m.trap] 29,am gc [.int .i64 o.c,.int .i64 o.a] 49,am gf [fx0,fx1,.int .i64 fr,fx3] 110,am gn [.int .i64 (s.length:Int)] 3,aj (.slice A (k+1) c) (li.map Prod.fst++ [(⟨f,p0,.slice Al l.length cl,.slice As s.length cs⟩:aT)]),aj (.slice Al l.length cl) l,cR li,aj (.slice Ab m.blocks.length cb) m.blocks,aj (.slice Ai m.inn.length ci) m.inn,aj (.slice Ao m.out.length co) m.out]:=by
 have hsl:=R.sl
 have h1:1≤s.length:=R.nd.one (.inr (.inl hc))
 have hv:s.getD (s.length - 1) default=aP s:=dQ.symm
 have hvi:aX (aP s).n:=by rw[dQ];exact R.si _ (cN (by omega))
 refine bQ (.still 0 (.still 1 (.still 2 (.still 3 (.still 4 (.still 5 (.pick 6 (.pick 7 (.pick 8 .done .stop) .stop) .stop))))))) [7,8] rfl (by kernel_rfl) (by kernel_rfl) ?_
 refine an rfl (ai fc a9 rfl rfl (by rfl)) rfl rfl ha ?_
 refine an rfl (ai fc a9 rfl rfl (by rfl)) rfl rfl ha ?_
 refine an rfl (ai fc ar rfl rfl (by rfl)) rfl rfl ha ?_
 refine an rfl (bx rfl rfl rfl (by omega)) rfl rfl ha ?_
 refine dh (t:=86) (v':= .int .i64 ((s.length - 1:Nat):Int)) rfl (by congr 1;omega) ?_
 refine an rfl (aO (k:=(s.length - 1)) az aE (SF.own (xs:=s) rfl fc) (by omega) rfl rfl rfl) rfl rfl ha ?_
 refine an rfl (cr (SF.val (SF.own rfl fc) (show s.length - 1<s.length by omega) default) rfl rfl dr aE) rfl rfl ha ?_
 refine aB rfl (bh (cs:= [_,_]) az aE bu rfl rfl rfl rfl rfl) rfl rfl (.inr fun _=>ha) (fun g1 _=>?_) ay
 rw[hv]
 refine aB rfl (dm (α:=aS) (bytes:=16) (aP s) [] rfl az (bM dk) rfl (eA fc fc) (dI hvi) (by omega) (by omega) rfl rfl rfl) rfl rfl (.inl rfl) (fun⟨A3,c3⟩ _=>?_) ay
 try dsimp only
 refine aB rfl (aH _ fc dd rfl rfl rfl rfl rfl (by rfl) rfl (by rfl)) rfl rfl (.inl rfl) (fun _ _=>?_) ay
 refine ck<|dY (K (s++ [aP s]) A3 c3 l m.blocks Ab cb m.inn Ai ci m.out Ao co m.status p1 ⟨R.pi.2.2,R.hms⟩ (by dsimp only[bP];rw[if_neg (by omega),if_neg (by omega),if_pos hc];conv=>lhs;rw[show dl s++ [aP s,aP s]=s++ [aP s] from by exact DL h1])) ⟨rfl,rfl,rfl,rfl,rfl,trivial⟩ me
set_option maxRecDepth 100000 in
set_option maxHeartbeats 2000000 in
theorem E6 (R:jm B w0 fs m a li k Ap cp f p0 p1 l s o fr) (hc:o.c=4) (K:∀(s':List aS) (As':Option Addr) (cs':Nat) (l':List aS) (b':List (List Int)) (Ab':Option Addr) (cb':Nat) (i':List Int) (Ai':Option Addr) (ci':Nat) (o':List Int) (Ao':Option Addr) (co':Nat) (st' nx:Int),aX nx∧aX st'→bP fs m (li.map Prod.snd) ⟨f,p1,l,s⟩ o= .inr ⟨li.map Prod.snd++ [⟨f,nx,l',s'⟩],b',i',o',st',m.trap⟩→XW ⟨551,[]⟩ B w0 Q .normal [(4,.pointer (some ⟨gr,0,none⟩)),(5,.pointer (some ⟨go,0,none⟩)),(6,.pointer (some ⟨ab A,ao A+k*4,none⟩)),(9,.pointer (some ⟨gs,0,none⟩)),(13,.int .i64 nx)] (am gs [.slice As' s'.length cs'] 95::aj (.slice As' s'.length cs') s'::am gr rz 29::am go [.slice A (k+1) c,.slice Ab' b'.length cb',.slice Ai' i'.length ci',.slice Ao' o'.length co',.int .i64 st',.int .i64 m.trap] 29::aj (.slice A (k+1) c) (li.map Prod.fst++ [(⟨f,p0,.slice Al l'.length cl,.slice As s.length cs⟩:aT)])::aj (.slice Al l'.length cl) l'::cR li::aj (.slice Ab' b'.length cb') b'::aj (.slice Ai' i'.length ci') i'::aj (.slice Ao' o'.length co') o':: [])):CW Tryz.prog ⟨551,[]⟩ B w0 (iF [true,true,true,true,true,true,true,true,true,true,true,false,true,false,true,true,true,true,true,true,true,false] (eY Tryz.f25)) Q [(4,.pointer (some ⟨gr,0,none⟩)),(5,.pointer (some ⟨go,0,none⟩)),(6,.pointer (some ⟨ab A,ao A+k*4,none⟩)),(9,.pointer (some ⟨gs,0,none⟩)),(10,.pointer (some ⟨gn,0,none⟩)),(13,.int .i64 p1)] [am gs [.slice As s.length cs] 95,aj (.slice As s.length cs) s,am gp [.slice Ap fs.length cp] 24,am gm [.slice a.Af m.frames.length a.cf,.slice a.Ab m.blocks.length a.cb,.slice a.Ai m.inn.length a.ci,.slice a.Ao m.out.length a.co,.int .i64 m.status,.int .i64 m.trap] 29,am gr rz 29,am go [.slice A (k+1) c,.slice Ab m.blocks.length cb,.slice Ai m.inn.length ci,.slice Ao m.out.length co,.int .i64 m.status,.int .i64 m.trap] 29,am gc [.int .i64 o.c,.int .i64 o.a] 49,am gf [fx0,fx1,.int .i64 fr,fx3] 110,am gn [.int .i64 (s.length:Int)] 3,aj (.slice A (k+1) c) (li.map Prod.fst++ [(⟨f,p0,.slice Al l.length cl,.slice As s.length cs⟩:aT)]),aj (.slice Al l.length cl) l,cR li,aj (.slice Ab m.blocks.length cb) m.blocks,aj (.slice Ai m.inn.length ci) m.inn,aj (.slice Ao m.out.length co) m.out]:=by
 have hsl:=R.sl
 have h1:2≤s.length:=R.nd.two (.inl hc)
 have hv:s.getD (s.length - 1) default=aP s:=dQ.symm
 have hvi:aX (aP s).n:=by rw[dQ];exact R.si _ (cN (by omega))
 have hv2:s.getD (s.length - 2) default=aP (dl s):=(gS h1).symm
 have hvi2:aX (aP (dl s)).n:=by rw[gS h1];exact R.si _ (cN (by omega))
 have e2:(dl (dl s)++ [aP s,aP (dl s)]).length=s.length:=by rw[←rg h1,List.length_set,List.length_set]
 refine dD (fun w hw=>(SF.at_ (SF.own (xs:=s) rfl (.s .a)) hw).addr (show 0<s.length by omega)) fun hAs=>?_
 refine e8 (.still 0 (.still 1 (.still 2 (.still 3 (.still 4 (.still 5 (.still 6 (.still 7 (.still 8 (.still 9 (.still 11 (.still 12 (.still 13 (.still 14 (.pick 10 (.pick 15 (.still 16 (.pick 17 (.still 18 (.pick 19 .done .stop)) .stop)) .stop) (.pick 15 (.pick 10 (.still 16 (.pick 17 (.still 18 (.pick 19 .done .stop)) .stop)) .stop) .stop)))))))))))))))) [19] rfl (by kernel_rfl) (by kernel_rfl) [am gs [.slice As s.length cs] 95,am gn [.int .i64 (s.length:Int)] 3] ?_
 refine an rfl (ai fc a9 rfl rfl (by rfl)) rfl rfl ha ?_
 refine an rfl (ai fc ar rfl rfl (by rfl)) rfl rfl ha ?_
 refine an rfl (o4 (c:=((s.length - 1:Nat):Int)) (by omega) rfl rfl rfl (by omega)) rfl rfl ha ?_
 refine an rfl (ai fc a9 rfl rfl (by rfl)) rfl rfl ha ?_
 refine an rfl (ai fc ar rfl rfl (by rfl)) rfl rfl ha ?_
 refine an rfl (o4 (c:=((s.length - 2:Nat):Int)) (by omega) rfl rfl rfl (by omega)) rfl rfl ha ?_
 refine an rfl (ai fc a9 rfl rfl (by rfl)) rfl rfl ha ?_
 refine an rfl (ai fc ar rfl rfl (by rfl)) rfl rfl ha ?_
 refine an rfl (o4 (c:=((s.length - 2:Nat):Int)) (by omega) rfl rfl rfl (by omega)) rfl rfl ha ?_
 refine an rfl (lH (k:=s.length - 2) hAs az aE (by omega) rfl rfl rfl) rfl rfl ha ?_
 refine an rfl (ai fc a9 rfl rfl (by rfl)) rfl rfl ha ?_
 refine an rfl (ai fc ar rfl rfl (by rfl)) rfl rfl ha ?_
 refine an rfl (o4 (c:=((s.length - 1:Nat):Int)) (by omega) rfl rfl rfl (by omega)) rfl rfl ha ?_
 refine an rfl (lH (k:=s.length - 1) hAs az aE (by omega) rfl rfl rfl) rfl rfl ha ?_
 refine aB rfl (wI (cr (cs:= [.bool (aP (dl s)).ref,.int .i64 (aP (dl s)).n]) (fun w hw j v h=>(SF.val (SF.own rfl fc) (show s.length - 2<s.length by omega) default) w hw j v (by rw[hv2];exact h)) rfl rfl dr aE)) rfl rfl (.inr fun _=>ha) (fun _ _=>?_) ?_
 ·refine aB rfl (wI (cr (cs:= [.bool (aP s).ref,.int .i64 (aP s).n]) (fun w hw j v h=>(SF.val (SF.own rfl fc) (show s.length - 1<s.length by omega) default) w hw j v (by rw[hv];exact h)) rfl rfl dr aE)) rfl rfl (.inr fun _=>ha) (fun _ _=>?_) ay
  refine an rfl (lH (k:=s.length - 1) hAs az aE (by omega) rfl rfl rfl) rfl rfl ha ?_
  refine aB rfl (eW (α:=aS) (A:=As) (c:=cs) (aP (dl s)) default (xs':=s.set (s.length - 1) (aP (dl s))) rfl fc (by omega) hvi2 aE rfl rfl rfl rfl rfl rfl rfl rfl) rfl rfl (.inr fun _=>ha) (fun _ _=>?_) ay
  refine an rfl (lH (k:=s.length - 2) hAs az aE (by omega) rfl rfl rfl) rfl rfl ha ?_
  refine aB rfl (eW (α:=aS) (A:=As) (c:=cs) (aP s) default (xs':=dl (dl s)++ [aP s,aP (dl s)]) (rg h1).symm fc (by omega) hvi aE rfl rfl rfl rfl rfl rfl rfl rfl) rfl rfl (.inl rfl) (fun _ _=>?_) ay
  refine ck<|dY (K (dl (dl s)++ [aP s,aP (dl s)]) As cs l m.blocks Ab cb m.inn Ai ci m.out Ao co m.status p1 ⟨R.pi.2.2,R.hms⟩ (by dsimp only[bP];rw[if_neg (by omega)];rw[if_neg (by omega)];rw[if_neg (by omega)];rw[if_pos hc])) ⟨rfl,rfl,rfl,rfl,rfl,trivial⟩ (fun w h=>by rw[e2];exact h.msub ms)
 refine aB rfl (wI (cr (cs:= [.bool (aP s).ref,.int .i64 (aP s).n]) (fun w hw j v h=>(SF.val (SF.own rfl fc) (show s.length - 1<s.length by omega) default) w hw j v (by rw[hv];exact h)) rfl rfl dr aE)) rfl rfl (.inr fun _=>ha) (fun _ _=>?_) ay
 refine aB rfl (wI (cr (cs:= [.bool (aP (dl s)).ref,.int .i64 (aP (dl s)).n]) (fun w hw j v h=>(SF.val (SF.own rfl fc) (show s.length - 2<s.length by omega) default) w hw j v (by rw[hv2];exact h)) rfl rfl dr aE)) rfl rfl (.inr fun _=>ha) (fun _ _=>?_) ay
 refine an rfl (lH (k:=s.length - 1) hAs az aE (by omega) rfl rfl rfl) rfl rfl ha ?_
 refine aB rfl (eW (α:=aS) (A:=As) (c:=cs) (aP (dl s)) default (xs':=s.set (s.length - 1) (aP (dl s))) rfl fc (by omega) hvi2 aE rfl rfl rfl rfl rfl rfl rfl rfl) rfl rfl (.inr fun _=>ha) (fun _ _=>?_) ay
 refine an rfl (lH (k:=s.length - 2) hAs az aE (by omega) rfl rfl rfl) rfl rfl ha ?_
 refine aB rfl (eW (α:=aS) (A:=As) (c:=cs) (aP s) default (xs':=dl (dl s)++ [aP s,aP (dl s)]) (rg h1).symm fc (by omega) hvi aE rfl rfl rfl rfl rfl rfl rfl rfl) rfl rfl (.inl rfl) (fun _ _=>?_) ay
 refine ck<|dY (K (dl (dl s)++ [aP s,aP (dl s)]) As cs l m.blocks Ab cb m.inn Ai ci m.out Ao co m.status p1 ⟨R.pi.2.2,R.hms⟩ (by dsimp only[bP];rw[if_neg (by omega)];rw[if_neg (by omega)];rw[if_neg (by omega)];rw[if_pos hc])) ⟨rfl,rfl,rfl,rfl,rfl,trivial⟩ (fun w h=>by rw[e2];exact h.msub ms)
set_option maxRecDepth 100000 in
set_option maxHeartbeats 2000000 in
theorem E5 (R:jm B w0 fs m a li k Ap cp f p0 p1 l s o fr) (hc:o.c=5) (K:∀(s':List aS) (As':Option Addr) (cs':Nat) (l':List aS) (b':List (List Int)) (Ab':Option Addr) (cb':Nat) (i':List Int) (Ai':Option Addr) (ci':Nat) (o':List Int) (Ao':Option Addr) (co':Nat) (st' nx:Int),aX nx∧aX st'→bP fs m (li.map Prod.snd) ⟨f,p1,l,s⟩ o= .inr ⟨li.map Prod.snd++ [⟨f,nx,l',s'⟩],b',i',o',st',m.trap⟩→XW ⟨551,[]⟩ B w0 Q .normal [(4,.pointer (some ⟨gr,0,none⟩)),(5,.pointer (some ⟨go,0,none⟩)),(6,.pointer (some ⟨ab A,ao A+k*4,none⟩)),(9,.pointer (some ⟨gs,0,none⟩)),(13,.int .i64 nx)] (am gs [.slice As' s'.length cs'] 95::aj (.slice As' s'.length cs') s'::am gr rz 29::am go [.slice A (k+1) c,.slice Ab' b'.length cb',.slice Ai' i'.length ci',.slice Ao' o'.length co',.int .i64 st',.int .i64 m.trap] 29::aj (.slice A (k+1) c) (li.map Prod.fst++ [(⟨f,p0,.slice Al l'.length cl,.slice As s.length cs⟩:aT)])::aj (.slice Al l'.length cl) l'::cR li::aj (.slice Ab' b'.length cb') b'::aj (.slice Ai' i'.length ci') i'::aj (.slice Ao' o'.length co') o':: [])):CW Tryz.prog ⟨551,[]⟩ B w0 (iF [true,true,true,true,true,true,true,true,true,true,true,false,true,false,true,true,true,true,true,true,true,true,true,false] (eY Tryz.f25)) Q [(4,.pointer (some ⟨gr,0,none⟩)),(5,.pointer (some ⟨go,0,none⟩)),(6,.pointer (some ⟨ab A,ao A+k*4,none⟩)),(9,.pointer (some ⟨gs,0,none⟩)),(10,.pointer (some ⟨gn,0,none⟩)),(11,.func (.func 77) #[] #[]),(13,.int .i64 p1)] [am gs [.slice As s.length cs] 95,aj (.slice As s.length cs) s,am gp [.slice Ap fs.length cp] 24,am gm [.slice a.Af m.frames.length a.cf,.slice a.Ab m.blocks.length a.cb,.slice a.Ai m.inn.length a.ci,.slice a.Ao m.out.length a.co,.int .i64 m.status,.int .i64 m.trap] 29,am gr rz 29,am go [.slice A (k+1) c,.slice Ab m.blocks.length cb,.slice Ai m.inn.length ci,.slice Ao m.out.length co,.int .i64 m.status,.int .i64 m.trap] 29,am gc [.int .i64 o.c,.int .i64 o.a] 49,am gf [fx0,fx1,.int .i64 fr,fx3] 110,am gn [.int .i64 (s.length:Int)] 3,aj (.slice A (k+1) c) (li.map Prod.fst++ [(⟨f,p0,.slice Al l.length cl,.slice As s.length cs⟩:aT)]),aj (.slice Al l.length cl) l,cR li,aj (.slice Ab m.blocks.length cb) m.blocks,aj (.slice Ai m.inn.length ci) m.inn,aj (.slice Ao m.out.length co) m.out]:=by
 have hsl:=R.sl
 have h1:2≤s.length:=R.nd.two (by omega)
 have hv:s.getD (s.length - 1) default=aP s:=dQ.symm
 have hvi:aX (aP s).n:=by rw[dQ];exact R.si _ (cN (by omega))
 have hv2:s.getD (s.length - 2) default=aP (dl s):=(gS h1).symm
 have hvi2:aX (aP (dl s)).n:=by rw[gS h1];exact R.si _ (cN (by omega))
 refine dD (fun w h=>eK h (xs:=s) (.s .a)) fun hcap=>?_
 have hd:=ph s
 refine bQ (.still 0 (.still 1 (.still 2 (.still 3 (.still 4 (.still 5 (.still 6 (.still 7 (.still 8 (.still 9 (.still 10 (.still 11 (.still 12 (.still 13 (.still 14 (.still 15 (.still 16 (.still 17 (.pick 18 (.pick 19 (.pick 20 (.pick 21 .done .stop) .stop) .stop) .stop))))))))))))))))))) [20,21] rfl (by kernel_rfl) (by kernel_rfl) ?_
 refine an rfl (ai fc a9 rfl rfl (by rfl)) rfl rfl ha ?_
 refine an rfl (ai fc ar rfl rfl (by rfl)) rfl rfl ha ?_
 refine an rfl (bx rfl rfl rfl (by omega)) rfl rfl ha ?_
 refine dh (t:=115) (v':= .int .i64 ((dl (dl s)).length:Int)) rfl (by congr 1;omega) ?_
 refine an rfl (fC (k:=(dl (dl s)).length) az aE (by omega) rfl rfl rfl) rfl rfl ha ?_
 refine aV ha 1 [4,5,6,9,10,13,116,117] rfl<|an rfl (ai fc a9 rfl rfl (by rfl)) rfl rfl ha ?_
 refine an rfl (ai fc ar rfl rfl (by rfl)) rfl rfl ha ?_
 refine an rfl (bx rfl rfl rfl (by omega)) rfl rfl ha ?_
 refine dh (t:=120) (v':= .int .i64 ((s.length - 2:Nat):Int)) rfl (by congr 1;omega) ?_
 refine an rfl (aO (k:=(s.length - 2)) az aE (SF.own (xs:=s) rfl fc) (by omega) rfl rfl rfl) rfl rfl ha ?_
 refine aV ha 1 [4,5,6,9,10,13,116,117,122] rfl<|an rfl (a8 (fun w hw=>(SF.val (SF.own rfl fc) (show s.length - 2<s.length by omega) default) w hw 1 _ rfl) rfl rfl ar) rfl rfl ha ?_
 refine an rfl (ai fc a9 rfl rfl (by rfl)) rfl rfl ha ?_
 refine an rfl (ai fc ar rfl rfl (by rfl)) rfl rfl ha ?_
 refine an rfl (bx rfl rfl rfl (by omega)) rfl rfl ha ?_
 rw[hv2]
 refine dh (t:=126) (v':= .int .i64 ((s.length - 1:Nat):Int)) rfl (by congr 1;omega) ?_
 refine an rfl (aO (k:=(s.length - 1)) az aE (SF.own (xs:=s) rfl fc) (by omega) rfl rfl rfl) rfl rfl ha ?_
 refine aV ha 1 [4,5,6,9,13,116,117,123,128] rfl<|an rfl (a8 (fun w hw=>(SF.val (SF.own rfl fc) (show s.length - 1<s.length by omega) default) w hw 1 _ rfl) rfl rfl ar) rfl rfl ha ?_
 rw[hv]
 refine an rfl (vH rfl rfl rfl) rfl rfl ha ?_
 refine aB rfl (hJ rfl rfl rfl lm (fun w hw=>il (oQ (aP (dl s)).n (aP s).n) (pE _) w)) rfl rfl (.inr fun _=>ha) (fun _ _=>?_) ay
 refine aB rfl (bh (cs:= [_,_]) az aE bu rfl rfl rfl rfl rfl) rfl rfl (.inr fun _=>ha) (fun g1 _=>?_) ay
 refine qo (dl (dl s)) fc (na s) ?_
 refine aB rfl (dm (α:=aS) (bytes:=16) (cF (oQ (aP (dl s)).n (aP s).n)) [] rfl az (bM dk) rfl (eA fc fc) (dI (is _)) (by omega) (by omega) rfl rfl rfl) rfl rfl (.inl rfl) (fun⟨A3,c3⟩ _=>?_) ay
 try dsimp only
 refine aB rfl (aH _ fc dd rfl rfl rfl rfl rfl (by rfl) rfl (by rfl)) rfl rfl (.inl rfl) (fun _ _=>?_) ay
 refine ck<|dY (K (dl (dl s)++ [cF (oQ (aP (dl s)).n (aP s).n)]) A3 c3 l m.blocks Ab cb m.inn Ai ci m.out Ao co m.status p1 ⟨R.pi.2.2,R.hms⟩ (by dsimp only[bP];rw[if_neg (by omega)];rw[if_neg (by omega)];rw[if_neg (by omega)];rw[if_neg (by omega)];rw[if_pos hc])) ⟨rfl,rfl,rfl,rfl,rfl,trivial⟩ me
set_option maxRecDepth 100000 in
set_option maxHeartbeats 2000000 in
theorem E4 (R:jm B w0 fs m a li k Ap cp f p0 p1 l s o fr) (hc:o.c=6) (K:∀(s':List aS) (As':Option Addr) (cs':Nat) (l':List aS) (b':List (List Int)) (Ab':Option Addr) (cb':Nat) (i':List Int) (Ai':Option Addr) (ci':Nat) (o':List Int) (Ao':Option Addr) (co':Nat) (st' nx:Int),aX nx∧aX st'→bP fs m (li.map Prod.snd) ⟨f,p1,l,s⟩ o= .inr ⟨li.map Prod.snd++ [⟨f,nx,l',s'⟩],b',i',o',st',m.trap⟩→XW ⟨551,[]⟩ B w0 Q .normal [(4,.pointer (some ⟨gr,0,none⟩)),(5,.pointer (some ⟨go,0,none⟩)),(6,.pointer (some ⟨ab A,ao A+k*4,none⟩)),(9,.pointer (some ⟨gs,0,none⟩)),(13,.int .i64 nx)] (am gs [.slice As' s'.length cs'] 95::aj (.slice As' s'.length cs') s'::am gr rz 29::am go [.slice A (k+1) c,.slice Ab' b'.length cb',.slice Ai' i'.length ci',.slice Ao' o'.length co',.int .i64 st',.int .i64 m.trap] 29::aj (.slice A (k+1) c) (li.map Prod.fst++ [(⟨f,p0,.slice Al l'.length cl,.slice As s.length cs⟩:aT)])::aj (.slice Al l'.length cl) l'::cR li::aj (.slice Ab' b'.length cb') b'::aj (.slice Ai' i'.length ci') i'::aj (.slice Ao' o'.length co') o':: [])):CW Tryz.prog ⟨551,[]⟩ B w0 (iF [true,true,true,true,true,true,true,true,true,true,true,false,true,false,true,true,true,true,true,true,true,true,true,true,true,false] (eY Tryz.f25)) Q [(4,.pointer (some ⟨gr,0,none⟩)),(5,.pointer (some ⟨go,0,none⟩)),(6,.pointer (some ⟨ab A,ao A+k*4,none⟩)),(9,.pointer (some ⟨gs,0,none⟩)),(10,.pointer (some ⟨gn,0,none⟩)),(11,.func (.func 77) #[] #[]),(13,.int .i64 p1)] [am gs [.slice As s.length cs] 95,aj (.slice As s.length cs) s,am gp [.slice Ap fs.length cp] 24,am gm [.slice a.Af m.frames.length a.cf,.slice a.Ab m.blocks.length a.cb,.slice a.Ai m.inn.length a.ci,.slice a.Ao m.out.length a.co,.int .i64 m.status,.int .i64 m.trap] 29,am gr rz 29,am go [.slice A (k+1) c,.slice Ab m.blocks.length cb,.slice Ai m.inn.length ci,.slice Ao m.out.length co,.int .i64 m.status,.int .i64 m.trap] 29,am gc [.int .i64 o.c,.int .i64 o.a] 49,am gf [fx0,fx1,.int .i64 fr,fx3] 110,am gn [.int .i64 (s.length:Int)] 3,aj (.slice A (k+1) c) (li.map Prod.fst++ [(⟨f,p0,.slice Al l.length cl,.slice As s.length cs⟩:aT)]),aj (.slice Al l.length cl) l,cR li,aj (.slice Ab m.blocks.length cb) m.blocks,aj (.slice Ai m.inn.length ci) m.inn,aj (.slice Ao m.out.length co) m.out]:=by
 have hsl:=R.sl
 have h1:2≤s.length:=R.nd.two (by omega)
 have hv:s.getD (s.length - 1) default=aP s:=dQ.symm
 have hvi:aX (aP s).n:=by rw[dQ];exact R.si _ (cN (by omega))
 have hv2:s.getD (s.length - 2) default=aP (dl s):=(gS h1).symm
 have hvi2:aX (aP (dl s)).n:=by rw[gS h1];exact R.si _ (cN (by omega))
 refine dD (fun w h=>eK h (xs:=s) (.s .a)) fun hcap=>?_
 have hd:=ph s
 refine bQ (.still 0 (.still 1 (.still 2 (.still 3 (.still 4 (.still 5 (.still 6 (.still 7 (.still 8 (.still 9 (.still 10 (.still 11 (.still 12 (.still 13 (.still 14 (.still 15 (.still 16 (.still 17 (.pick 18 (.pick 19 (.pick 20 (.pick 21 .done .stop) .stop) .stop) .stop))))))))))))))))))) [20,21] rfl (by kernel_rfl) (by kernel_rfl) ?_
 refine an rfl (ai fc a9 rfl rfl (by rfl)) rfl rfl ha ?_
 refine an rfl (ai fc ar rfl rfl (by rfl)) rfl rfl ha ?_
 refine an rfl (bx rfl rfl rfl (by omega)) rfl rfl ha ?_
 refine dh (t:=138) (v':= .int .i64 ((dl (dl s)).length:Int)) rfl (by congr 1;omega) ?_
 refine an rfl (fC (k:=(dl (dl s)).length) az aE (by omega) rfl rfl rfl) rfl rfl ha ?_
 refine aV ha 1 [4,5,6,9,10,13,139,140] rfl<|an rfl (ai fc a9 rfl rfl (by rfl)) rfl rfl ha ?_
 refine an rfl (ai fc ar rfl rfl (by rfl)) rfl rfl ha ?_
 refine an rfl (bx rfl rfl rfl (by omega)) rfl rfl ha ?_
 refine dh (t:=143) (v':= .int .i64 ((s.length - 2:Nat):Int)) rfl (by congr 1;omega) ?_
 refine an rfl (aO (k:=(s.length - 2)) az aE (SF.own (xs:=s) rfl fc) (by omega) rfl rfl rfl) rfl rfl ha ?_
 refine aV ha 1 [4,5,6,9,10,13,139,140,145] rfl<|an rfl (a8 (fun w hw=>(SF.val (SF.own rfl fc) (show s.length - 2<s.length by omega) default) w hw 1 _ rfl) rfl rfl ar) rfl rfl ha ?_
 refine an rfl (ai fc a9 rfl rfl (by rfl)) rfl rfl ha ?_
 refine an rfl (ai fc ar rfl rfl (by rfl)) rfl rfl ha ?_
 refine an rfl (bx rfl rfl rfl (by omega)) rfl rfl ha ?_
 rw[hv2]
 refine dh (t:=149) (v':= .int .i64 ((s.length - 1:Nat):Int)) rfl (by congr 1;omega) ?_
 refine an rfl (aO (k:=(s.length - 1)) az aE (SF.own (xs:=s) rfl fc) (by omega) rfl rfl rfl) rfl rfl ha ?_
 refine aV ha 1 [4,5,6,9,13,139,140,146,151] rfl<|an rfl (a8 (fun w hw=>(SF.val (SF.own rfl fc) (show s.length - 1<s.length by omega) default) w hw 1 _ rfl) rfl rfl ar) rfl rfl ha ?_
 rw[hv]
 refine an rfl (vE rfl rfl rfl) rfl rfl ha ?_
 refine aB rfl (hJ rfl rfl rfl lm (fun w hw=>il (n7 (aP (dl s)).n (aP s).n) (pE _) w)) rfl rfl (.inr fun _=>ha) (fun _ _=>?_) ay
 refine aB rfl (bh (cs:= [_,_]) az aE bu rfl rfl rfl rfl rfl) rfl rfl (.inr fun _=>ha) (fun g1 _=>?_) ay
 refine qo (dl (dl s)) fc (na s) ?_
 refine aB rfl (dm (α:=aS) (bytes:=16) (cF (n7 (aP (dl s)).n (aP s).n)) [] rfl az (bM dk) rfl (eA fc fc) (dI (is _)) (by omega) (by omega) rfl rfl rfl) rfl rfl (.inl rfl) (fun⟨A3,c3⟩ _=>?_) ay
 try dsimp only
 refine aB rfl (aH _ fc dd rfl rfl rfl rfl rfl (by rfl) rfl (by rfl)) rfl rfl (.inl rfl) (fun _ _=>?_) ay
 refine ck<|dY (K (dl (dl s)++ [cF (n7 (aP (dl s)).n (aP s).n)]) A3 c3 l m.blocks Ab cb m.inn Ai ci m.out Ao co m.status p1 ⟨R.pi.2.2,R.hms⟩ (by dsimp only[bP];rw[if_neg (by omega)];rw[if_neg (by omega)];rw[if_neg (by omega)];rw[if_neg (by omega)];rw[if_neg (by omega)];rw[if_pos hc])) ⟨rfl,rfl,rfl,rfl,rfl,trivial⟩ me
set_option maxRecDepth 100000 in
set_option maxHeartbeats 2000000 in
theorem E3 (R:jm B w0 fs m a li k Ap cp f p0 p1 l s o fr) (hc:o.c=7) (K:∀(s':List aS) (As':Option Addr) (cs':Nat) (l':List aS) (b':List (List Int)) (Ab':Option Addr) (cb':Nat) (i':List Int) (Ai':Option Addr) (ci':Nat) (o':List Int) (Ao':Option Addr) (co':Nat) (st' nx:Int),aX nx∧aX st'→bP fs m (li.map Prod.snd) ⟨f,p1,l,s⟩ o= .inr ⟨li.map Prod.snd++ [⟨f,nx,l',s'⟩],b',i',o',st',m.trap⟩→XW ⟨551,[]⟩ B w0 Q .normal [(4,.pointer (some ⟨gr,0,none⟩)),(5,.pointer (some ⟨go,0,none⟩)),(6,.pointer (some ⟨ab A,ao A+k*4,none⟩)),(9,.pointer (some ⟨gs,0,none⟩)),(13,.int .i64 nx)] (am gs [.slice As' s'.length cs'] 95::aj (.slice As' s'.length cs') s'::am gr rz 29::am go [.slice A (k+1) c,.slice Ab' b'.length cb',.slice Ai' i'.length ci',.slice Ao' o'.length co',.int .i64 st',.int .i64 m.trap] 29::aj (.slice A (k+1) c) (li.map Prod.fst++ [(⟨f,p0,.slice Al l'.length cl,.slice As s.length cs⟩:aT)])::aj (.slice Al l'.length cl) l'::cR li::aj (.slice Ab' b'.length cb') b'::aj (.slice Ai' i'.length ci') i'::aj (.slice Ao' o'.length co') o':: [])):CW Tryz.prog ⟨551,[]⟩ B w0 (iF [true,true,true,true,true,true,true,true,true,true,true,false,true,false,true,true,true,true,true,true,true,true,true,true,true,true,true,false] (eY Tryz.f25)) Q [(4,.pointer (some ⟨gr,0,none⟩)),(5,.pointer (some ⟨go,0,none⟩)),(6,.pointer (some ⟨ab A,ao A+k*4,none⟩)),(9,.pointer (some ⟨gs,0,none⟩)),(10,.pointer (some ⟨gn,0,none⟩)),(11,.func (.func 77) #[] #[]),(13,.int .i64 p1)] [am gs [.slice As s.length cs] 95,aj (.slice As s.length cs) s,am gp [.slice Ap fs.length cp] 24,am gm [.slice a.Af m.frames.length a.cf,.slice a.Ab m.blocks.length a.cb,.slice a.Ai m.inn.length a.ci,.slice a.Ao m.out.length a.co,.int .i64 m.status,.int .i64 m.trap] 29,am gr rz 29,am go [.slice A (k+1) c,.slice Ab m.blocks.length cb,.slice Ai m.inn.length ci,.slice Ao m.out.length co,.int .i64 m.status,.int .i64 m.trap] 29,am gc [.int .i64 o.c,.int .i64 o.a] 49,am gf [fx0,fx1,.int .i64 fr,fx3] 110,am gn [.int .i64 (s.length:Int)] 3,aj (.slice A (k+1) c) (li.map Prod.fst++ [(⟨f,p0,.slice Al l.length cl,.slice As s.length cs⟩:aT)]),aj (.slice Al l.length cl) l,cR li,aj (.slice Ab m.blocks.length cb) m.blocks,aj (.slice Ai m.inn.length ci) m.inn,aj (.slice Ao m.out.length co) m.out]:=by
 have hsl:=R.sl
 have h1:2≤s.length:=R.nd.two (by omega)
 have hv:s.getD (s.length - 1) default=aP s:=dQ.symm
 have hvi:aX (aP s).n:=by rw[dQ];exact R.si _ (cN (by omega))
 have hv2:s.getD (s.length - 2) default=aP (dl s):=(gS h1).symm
 have hvi2:aX (aP (dl s)).n:=by rw[gS h1];exact R.si _ (cN (by omega))
 refine dD (fun w h=>eK h (xs:=s) (.s .a)) fun hcap=>?_
 have hd:=ph s
 refine bQ (.still 0 (.still 1 (.still 2 (.still 3 (.still 4 (.still 5 (.still 6 (.still 7 (.still 8 (.still 9 (.still 10 (.still 11 (.still 12 (.still 13 (.still 14 (.still 15 (.still 16 (.still 17 (.pick 18 (.pick 19 (.pick 20 (.pick 21 .done .stop) .stop) .stop) .stop))))))))))))))))))) [20,21] rfl (by kernel_rfl) (by kernel_rfl) ?_
 refine an rfl (ai fc a9 rfl rfl (by rfl)) rfl rfl ha ?_
 refine an rfl (ai fc ar rfl rfl (by rfl)) rfl rfl ha ?_
 refine an rfl (bx rfl rfl rfl (by omega)) rfl rfl ha ?_
 refine dh (t:=161) (v':= .int .i64 ((dl (dl s)).length:Int)) rfl (by congr 1;omega) ?_
 refine an rfl (fC (k:=(dl (dl s)).length) az aE (by omega) rfl rfl rfl) rfl rfl ha ?_
 refine aV ha 1 [4,5,6,9,10,13,162,163] rfl<|an rfl (ai fc a9 rfl rfl (by rfl)) rfl rfl ha ?_
 refine an rfl (ai fc ar rfl rfl (by rfl)) rfl rfl ha ?_
 refine an rfl (bx rfl rfl rfl (by omega)) rfl rfl ha ?_
 refine dh (t:=166) (v':= .int .i64 ((s.length - 2:Nat):Int)) rfl (by congr 1;omega) ?_
 refine an rfl (aO (k:=(s.length - 2)) az aE (SF.own (xs:=s) rfl fc) (by omega) rfl rfl rfl) rfl rfl ha ?_
 refine aV ha 1 [4,5,6,9,10,13,162,163,168] rfl<|an rfl (a8 (fun w hw=>(SF.val (SF.own rfl fc) (show s.length - 2<s.length by omega) default) w hw 1 _ rfl) rfl rfl ar) rfl rfl ha ?_
 refine an rfl (ai fc a9 rfl rfl (by rfl)) rfl rfl ha ?_
 refine an rfl (ai fc ar rfl rfl (by rfl)) rfl rfl ha ?_
 refine an rfl (bx rfl rfl rfl (by omega)) rfl rfl ha ?_
 rw[hv2]
 refine dh (t:=172) (v':= .int .i64 ((s.length - 1:Nat):Int)) rfl (by congr 1;omega) ?_
 refine an rfl (aO (k:=(s.length - 1)) az aE (SF.own (xs:=s) rfl fc) (by omega) rfl rfl rfl) rfl rfl ha ?_
 refine aV ha 1 [4,5,6,9,13,162,163,169,174] rfl<|an rfl (a8 (fun w hw=>(SF.val (SF.own rfl fc) (show s.length - 1<s.length by omega) default) w hw 1 _ rfl) rfl rfl ar) rfl rfl ha ?_
 rw[hv]
 refine an rfl (vG rfl rfl rfl) rfl rfl ha ?_
 refine aB rfl (hJ rfl rfl rfl lm (fun w hw=>il (oC (aP (dl s)).n (aP s).n) (pE _) w)) rfl rfl (.inr fun _=>ha) (fun _ _=>?_) ay
 refine aB rfl (bh (cs:= [_,_]) az aE bu rfl rfl rfl rfl rfl) rfl rfl (.inr fun _=>ha) (fun g1 _=>?_) ay
 refine qo (dl (dl s)) fc (na s) ?_
 refine aB rfl (dm (α:=aS) (bytes:=16) (cF (oC (aP (dl s)).n (aP s).n)) [] rfl az (bM dk) rfl (eA fc fc) (dI (is _)) (by omega) (by omega) rfl rfl rfl) rfl rfl (.inl rfl) (fun⟨A3,c3⟩ _=>?_) ay
 try dsimp only
 refine aB rfl (aH _ fc dd rfl rfl rfl rfl rfl (by rfl) rfl (by rfl)) rfl rfl (.inl rfl) (fun _ _=>?_) ay
 refine ck<|dY (K (dl (dl s)++ [cF (oC (aP (dl s)).n (aP s).n)]) A3 c3 l m.blocks Ab cb m.inn Ai ci m.out Ao co m.status p1 ⟨R.pi.2.2,R.hms⟩ (by dsimp only[bP];rw[if_neg (by omega)];rw[if_neg (by omega)];rw[if_neg (by omega)];rw[if_neg (by omega)];rw[if_neg (by omega)];rw[if_neg (by omega)];rw[if_pos hc])) ⟨rfl,rfl,rfl,rfl,rfl,trivial⟩ me
set_option maxRecDepth 100000 in
set_option maxHeartbeats 2000000 in
theorem E2 (R:jm B w0 fs m a li k Ap cp f p0 p1 l s o fr) (hc:o.c=8) (K:∀(s':List aS) (As':Option Addr) (cs':Nat) (l':List aS) (b':List (List Int)) (Ab':Option Addr) (cb':Nat) (i':List Int) (Ai':Option Addr) (ci':Nat) (o':List Int) (Ao':Option Addr) (co':Nat) (st' nx:Int),aX nx∧aX st'→bP fs m (li.map Prod.snd) ⟨f,p1,l,s⟩ o= .inr ⟨li.map Prod.snd++ [⟨f,nx,l',s'⟩],b',i',o',st',m.trap⟩→XW ⟨551,[]⟩ B w0 Q .normal [(4,.pointer (some ⟨gr,0,none⟩)),(5,.pointer (some ⟨go,0,none⟩)),(6,.pointer (some ⟨ab A,ao A+k*4,none⟩)),(9,.pointer (some ⟨gs,0,none⟩)),(13,.int .i64 nx)] (am gs [.slice As' s'.length cs'] 95::aj (.slice As' s'.length cs') s'::am gr rz 29::am go [.slice A (k+1) c,.slice Ab' b'.length cb',.slice Ai' i'.length ci',.slice Ao' o'.length co',.int .i64 st',.int .i64 m.trap] 29::aj (.slice A (k+1) c) (li.map Prod.fst++ [(⟨f,p0,.slice Al l'.length cl,.slice As s.length cs⟩:aT)])::aj (.slice Al l'.length cl) l'::cR li::aj (.slice Ab' b'.length cb') b'::aj (.slice Ai' i'.length ci') i'::aj (.slice Ao' o'.length co') o':: [])):CW Tryz.prog ⟨551,[]⟩ B w0 (iF [true,true,true,true,true,true,true,true,true,true,true,false,true,false,true,true,true,true,true,true,true,true,true,true,true,true,true,true,true,false] (eY Tryz.f25)) Q [(4,.pointer (some ⟨gr,0,none⟩)),(5,.pointer (some ⟨go,0,none⟩)),(6,.pointer (some ⟨ab A,ao A+k*4,none⟩)),(7,.pointer (some ⟨gc,0,none⟩)),(9,.pointer (some ⟨gs,0,none⟩)),(13,.int .i64 p1)] [am gs [.slice As s.length cs] 95,aj (.slice As s.length cs) s,am gp [.slice Ap fs.length cp] 24,am gm [.slice a.Af m.frames.length a.cf,.slice a.Ab m.blocks.length a.cb,.slice a.Ai m.inn.length a.ci,.slice a.Ao m.out.length a.co,.int .i64 m.status,.int .i64 m.trap] 29,am gr rz 29,am go [.slice A (k+1) c,.slice Ab m.blocks.length cb,.slice Ai m.inn.length ci,.slice Ao m.out.length co,.int .i64 m.status,.int .i64 m.trap] 29,am gc [.int .i64 o.c,.int .i64 o.a] 49,am gf [fx0,fx1,.int .i64 fr,fx3] 110,am gn [.int .i64 (s.length:Int)] 3,aj (.slice A (k+1) c) (li.map Prod.fst++ [(⟨f,p0,.slice Al l.length cl,.slice As s.length cs⟩:aT)]),aj (.slice Al l.length cl) l,cR li,aj (.slice Ab m.blocks.length cb) m.blocks,aj (.slice Ai m.inn.length ci) m.inn,aj (.slice Ao m.out.length co) m.out]:=by
 have hsl:=R.sl
 have hloc:0≤o.a∧o.a<l.length:=R.nd.loc (.inl hc)
 have hvi:aX (l.getD o.a.toNat default).n:=R.lv _ (cN (by omega))
 have hlm:(li.map Prod.fst).length=k:=by rw[List.length_map];exact R.hk
 refine bQ (.still 0 (.still 1 (.still 2 (.still 3 (.still 4 (.still 5 (.still 6 (.still 7 (.still 8 (.pick 9 (.pick 10 (.pick 11 .done .stop) .stop) .stop)))))))))) [10,11] rfl (by kernel_rfl) (by kernel_rfl) ?_
 refine an rfl (ai fc a9 rfl rfl (by rfl)) rfl rfl ha ?_
 refine aV ha 3 [4,5,6,7,9,13,182,185] rfl<|an rfl (a8 (eq (j:=2) hlm fc rfl) rfl rfl a9) rfl rfl ha ?_
 refine aV ha 1 [4,5,6,9,13,182,186,187] rfl<|an rfl (ai fc ar rfl rfl (by rfl)) rfl rfl ha ?_
 refine dh (t:=188) (v':= .int .i64 ((o.a.toNat:Nat):Int)) rfl (by congr 1;omega) ?_
 refine an rfl (aO (k:=o.a.toNat) az aE (SF.own (xs:=l) rfl fc) (by omega) rfl rfl rfl) rfl rfl ha ?_
 refine an rfl (cr (SF.val (SF.own rfl fc) (show o.a.toNat<l.length by omega) default) rfl rfl dr aE) rfl rfl ha ?_
 refine aB rfl (bh (cs:= [_,_]) az aE bu rfl rfl rfl rfl rfl) rfl rfl (.inr fun _=>ha) (fun g1 _=>?_) ay
 refine aB rfl (dm (α:=aS) (bytes:=16) (l.getD o.a.toNat default) [] rfl az (bM dk) rfl (eA (R:=aj (.slice As s.length cs) s) fc fc) (dI hvi) (by omega) (by omega) rfl rfl rfl) rfl rfl (.inl rfl) (fun⟨A3,c3⟩ _=>?_) ay
 try dsimp only
 refine aB rfl (aH _ fc dd rfl rfl rfl rfl rfl (by rfl) rfl (by rfl)) rfl rfl (.inl rfl) (fun _ _=>?_) ay
 refine ck<|dY (K (s++ [l.getD o.a.toNat default]) A3 c3 l m.blocks Ab cb m.inn Ai ci m.out Ao co m.status p1 ⟨R.pi.2.2,R.hms⟩ (by dsimp only[bP];rw[if_neg (by omega)];rw[if_neg (by omega)];rw[if_neg (by omega)];rw[if_neg (by omega)];rw[if_neg (by omega)];rw[if_neg (by omega)];rw[if_neg (by omega)];rw[if_pos hc])) ⟨rfl,rfl,rfl,rfl,rfl,trivial⟩ me
set_option maxRecDepth 100000 in
set_option maxHeartbeats 2000000 in
theorem E1 (R:jm B w0 fs m a li k Ap cp f p0 p1 l s o fr) (hc:o.c=9) (K:∀(s':List aS) (As':Option Addr) (cs':Nat) (l':List aS) (b':List (List Int)) (Ab':Option Addr) (cb':Nat) (i':List Int) (Ai':Option Addr) (ci':Nat) (o':List Int) (Ao':Option Addr) (co':Nat) (st' nx:Int),aX nx∧aX st'→bP fs m (li.map Prod.snd) ⟨f,p1,l,s⟩ o= .inr ⟨li.map Prod.snd++ [⟨f,nx,l',s'⟩],b',i',o',st',m.trap⟩→XW ⟨551,[]⟩ B w0 Q .normal [(4,.pointer (some ⟨gr,0,none⟩)),(5,.pointer (some ⟨go,0,none⟩)),(6,.pointer (some ⟨ab A,ao A+k*4,none⟩)),(9,.pointer (some ⟨gs,0,none⟩)),(13,.int .i64 nx)] (am gs [.slice As' s'.length cs'] 95::aj (.slice As' s'.length cs') s'::am gr rz 29::am go [.slice A (k+1) c,.slice Ab' b'.length cb',.slice Ai' i'.length ci',.slice Ao' o'.length co',.int .i64 st',.int .i64 m.trap] 29::aj (.slice A (k+1) c) (li.map Prod.fst++ [(⟨f,p0,.slice Al l'.length cl,.slice As s.length cs⟩:aT)])::aj (.slice Al l'.length cl) l'::cR li::aj (.slice Ab' b'.length cb') b'::aj (.slice Ai' i'.length ci') i'::aj (.slice Ao' o'.length co') o':: [])):CW Tryz.prog ⟨551,[]⟩ B w0 (iF [true,true,true,true,true,true,true,true,true,true,true,false,true,false,true,true,true,true,true,true,true,true,true,true,true,true,true,true,true,true,true,false] (eY Tryz.f25)) Q [(4,.pointer (some ⟨gr,0,none⟩)),(5,.pointer (some ⟨go,0,none⟩)),(6,.pointer (some ⟨ab A,ao A+k*4,none⟩)),(7,.pointer (some ⟨gc,0,none⟩)),(9,.pointer (some ⟨gs,0,none⟩)),(10,.pointer (some ⟨gn,0,none⟩)),(13,.int .i64 p1)] [am gs [.slice As s.length cs] 95,aj (.slice As s.length cs) s,am gp [.slice Ap fs.length cp] 24,am gm [.slice a.Af m.frames.length a.cf,.slice a.Ab m.blocks.length a.cb,.slice a.Ai m.inn.length a.ci,.slice a.Ao m.out.length a.co,.int .i64 m.status,.int .i64 m.trap] 29,am gr rz 29,am go [.slice A (k+1) c,.slice Ab m.blocks.length cb,.slice Ai m.inn.length ci,.slice Ao m.out.length co,.int .i64 m.status,.int .i64 m.trap] 29,am gc [.int .i64 o.c,.int .i64 o.a] 49,am gf [fx0,fx1,.int .i64 fr,fx3] 110,am gn [.int .i64 (s.length:Int)] 3,aj (.slice A (k+1) c) (li.map Prod.fst++ [(⟨f,p0,.slice Al l.length cl,.slice As s.length cs⟩:aT)]),aj (.slice Al l.length cl) l,cR li,aj (.slice Ab m.blocks.length cb) m.blocks,aj (.slice Ai m.inn.length ci) m.inn,aj (.slice Ao m.out.length co) m.out]:=by
 have hsl:=R.sl
 have hloc:0≤o.a∧o.a<l.length:=R.nd.loc (.inr hc)
 have h1:1≤s.length:=R.nd.one (by omega)
 have hv:s.getD (s.length - 1) default=aP s:=dQ.symm
 have hvi:aX (aP s).n:=by rw[dQ];exact R.si _ (cN (by omega))
 have hlm:(li.map Prod.fst).length=k:=by rw[List.length_map];exact R.hk
 have hd:=fT s
 refine dD (fun w h=>eK h (xs:=s) (.s .a)) fun hcap=>?_
 refine ac<|bQ (.still 0 (.still 1 (.still 2 (.still 3 (.still 4 (.still 5 (.still 6 (.still 7 (.still 8 (.still 9 (.still 10 (.still 11 (.pick 12 .done .stop))))))))))))) [12] rfl (by kernel_rfl) (by kernel_rfl) ?_
 refine aV ha 3 [4,5,6,7,9,10,13,197] rfl<|an rfl (a8 (eq (j:=2) hlm fc rfl) rfl rfl a9) rfl rfl ha ?_
 refine aV ha 1 [4,5,6,9,10,13,198,199] rfl<|an rfl (ai fc ar rfl rfl (by rfl)) rfl rfl ha ?_
 refine an rfl (ai fc a9 rfl rfl (by rfl)) rfl rfl ha ?_
 refine an rfl (ai fc ar rfl rfl (by rfl)) rfl rfl ha ?_
 refine an rfl (bx rfl rfl rfl (by omega)) rfl rfl ha ?_
 refine dh (t:=203) (v':= .int .i64 ((s.length - 1:Nat):Int)) rfl (by congr 1;omega) ?_
 refine an rfl (aO (k:=(s.length - 1)) az aE (SF.own (xs:=s) rfl fc) (by omega) rfl rfl rfl) rfl rfl ha ?_
 refine an rfl (cr (SF.val (SF.own rfl fc) (show s.length - 1<s.length by omega) default) rfl rfl dr aE) rfl rfl ha ?_
 rw[hv]
 refine dh (t:=200) (v':= .int .i64 ((o.a.toNat:Nat):Int)) rfl (by congr 1;omega) ?_
 refine an rfl (aO (k:=o.a.toNat) az aE (SF.own (xs:=l) rfl fc) (by omega) rfl rfl rfl) rfl rfl ha ?_
 refine aB rfl (eW (α:=aS) (A:=Al) (c:=cl) (aP s) default (xs':=l.set o.a.toNat (aP s)) rfl fc (by omega) hvi aE rfl rfl rfl rfl rfl rfl rfl rfl) rfl rfl (.inl rfl) (fun _ _=>?_) ay
 refine cJ<|aa<|af (ai fc a9 rfl rfl (by rfl)) rfl rfl ?_
 refine af (ai fc ar rfl rfl (by rfl)) rfl rfl ?_
 refine af (bx rfl rfl rfl (by omega)) rfl rfl<|bA (t:=209) (v':= .int .i64 ((dl s).length:Int)) rfl (by congr 1;omega) ?_
 refine af (fC (k:=(dl s).length) az aE (by omega) rfl rfl rfl) rfl rfl<|ag (aH _ fc dd rfl rfl rfl rfl rfl (by rfl) rfl (by rfl)) rfl rfl (fun _ _=>?_)
 refine mS (dl s) fc (la s) ?_
 refine bE<|dY (K (dl s) As cs (l.set o.a.toNat (aP s)) m.blocks Ab cb m.inn Ai ci m.out Ao co m.status p1 ⟨R.pi.2.2,R.hms⟩ (by dsimp only[bP];rw[if_neg (by omega)];rw[if_neg (by omega)];rw[if_neg (by omega)];rw[if_neg (by omega)];rw[if_neg (by omega)];rw[if_neg (by omega)];rw[if_neg (by omega)];rw[if_neg (by omega)];rw[if_pos hc])) ⟨rfl,rfl,rfl,rfl,rfl,trivial⟩ (fun w h=>by rw[List.length_set];exact h.msub ms)
set_option maxRecDepth 100000 in
set_option maxHeartbeats 2000000 in
theorem Eg (R:jm B w0 fs m a li k Ap cp f p0 p1 l s o fr) (hc:o.c=10) (K:∀(s':List aS) (As':Option Addr) (cs':Nat) (l':List aS) (b':List (List Int)) (Ab':Option Addr) (cb':Nat) (i':List Int) (Ai':Option Addr) (ci':Nat) (o':List Int) (Ao':Option Addr) (co':Nat) (st' nx:Int),aX nx∧aX st'→bP fs m (li.map Prod.snd) ⟨f,p1,l,s⟩ o= .inr ⟨li.map Prod.snd++ [⟨f,nx,l',s'⟩],b',i',o',st',m.trap⟩→XW ⟨551,[]⟩ B w0 Q .normal [(4,.pointer (some ⟨gr,0,none⟩)),(5,.pointer (some ⟨go,0,none⟩)),(6,.pointer (some ⟨ab A,ao A+k*4,none⟩)),(9,.pointer (some ⟨gs,0,none⟩)),(13,.int .i64 nx)] (am gs [.slice As' s'.length cs'] 95::aj (.slice As' s'.length cs') s'::am gr rz 29::am go [.slice A (k+1) c,.slice Ab' b'.length cb',.slice Ai' i'.length ci',.slice Ao' o'.length co',.int .i64 st',.int .i64 m.trap] 29::aj (.slice A (k+1) c) (li.map Prod.fst++ [(⟨f,p0,.slice Al l'.length cl,.slice As s.length cs⟩:aT)])::aj (.slice Al l'.length cl) l'::cR li::aj (.slice Ab' b'.length cb') b'::aj (.slice Ai' i'.length ci') i'::aj (.slice Ao' o'.length co') o':: [])):CW Tryz.prog ⟨551,[]⟩ B w0 (iF [true,true,true,true,true,true,true,true,true,true,true,false,true,false,true,true,true,true,true,true,true,true,true,true,true,true,true,true,true,true,true,true,true,false] (eY Tryz.f25)) Q [(4,.pointer (some ⟨gr,0,none⟩)),(5,.pointer (some ⟨go,0,none⟩)),(6,.pointer (some ⟨ab A,ao A+k*4,none⟩)),(7,.pointer (some ⟨gc,0,none⟩)),(9,.pointer (some ⟨gs,0,none⟩))] [am gs [.slice As s.length cs] 95,aj (.slice As s.length cs) s,am gp [.slice Ap fs.length cp] 24,am gm [.slice a.Af m.frames.length a.cf,.slice a.Ab m.blocks.length a.cb,.slice a.Ai m.inn.length a.ci,.slice a.Ao m.out.length a.co,.int .i64 m.status,.int .i64 m.trap] 29,am gr rz 29,am go [.slice A (k+1) c,.slice Ab m.blocks.length cb,.slice Ai m.inn.length ci,.slice Ao m.out.length co,.int .i64 m.status,.int .i64 m.trap] 29,am gc [.int .i64 o.c,.int .i64 o.a] 49,am gf [fx0,fx1,.int .i64 fr,fx3] 110,am gn [.int .i64 (s.length:Int)] 3,aj (.slice A (k+1) c) (li.map Prod.fst++ [(⟨f,p0,.slice Al l.length cl,.slice As s.length cs⟩:aT)]),aj (.slice Al l.length cl) l,cR li,aj (.slice Ab m.blocks.length cb) m.blocks,aj (.slice Ai m.inn.length ci) m.inn,aj (.slice Ao m.out.length co) m.out]:=by
 have hsl:=R.sl
 refine aa<|rn 1 [4,5,6,9,213] rfl<|af (ai fc ar rfl rfl (by rfl)) rfl rfl ?_
 refine rn 1 [4,5,6,9,13] rfl<|bE<|dY (K s As cs l m.blocks Ab cb m.inn Ai ci m.out Ao co m.status o.a ⟨R.oa,R.hms⟩ (by dsimp only[bP];rw[if_neg (by omega)];rw[if_neg (by omega)];rw[if_neg (by omega)];rw[if_neg (by omega)];rw[if_neg (by omega)];rw[if_neg (by omega)];rw[if_neg (by omega)];rw[if_neg (by omega)];rw[if_neg (by omega)];rw[if_pos hc])) ⟨rfl,rfl,rfl,rfl,rfl,trivial⟩ me
set_option maxRecDepth 100000 in
set_option maxHeartbeats 2000000 in
theorem Ef (R:jm B w0 fs m a li k Ap cp f p0 p1 l s o fr) (hc:o.c=11) (K:∀(s':List aS) (As':Option Addr) (cs':Nat) (l':List aS) (b':List (List Int)) (Ab':Option Addr) (cb':Nat) (i':List Int) (Ai':Option Addr) (ci':Nat) (o':List Int) (Ao':Option Addr) (co':Nat) (st' nx:Int),aX nx∧aX st'→bP fs m (li.map Prod.snd) ⟨f,p1,l,s⟩ o= .inr ⟨li.map Prod.snd++ [⟨f,nx,l',s'⟩],b',i',o',st',m.trap⟩→XW ⟨551,[]⟩ B w0 Q .normal [(4,.pointer (some ⟨gr,0,none⟩)),(5,.pointer (some ⟨go,0,none⟩)),(6,.pointer (some ⟨ab A,ao A+k*4,none⟩)),(9,.pointer (some ⟨gs,0,none⟩)),(13,.int .i64 nx)] (am gs [.slice As' s'.length cs'] 95::aj (.slice As' s'.length cs') s'::am gr rz 29::am go [.slice A (k+1) c,.slice Ab' b'.length cb',.slice Ai' i'.length ci',.slice Ao' o'.length co',.int .i64 st',.int .i64 m.trap] 29::aj (.slice A (k+1) c) (li.map Prod.fst++ [(⟨f,p0,.slice Al l'.length cl,.slice As s.length cs⟩:aT)])::aj (.slice Al l'.length cl) l'::cR li::aj (.slice Ab' b'.length cb') b'::aj (.slice Ai' i'.length ci') i'::aj (.slice Ao' o'.length co') o':: [])):CW Tryz.prog ⟨551,[]⟩ B w0 (iF [true,true,true,true,true,true,true,true,true,true,true,false,true,false,true,true,true,true,true,true,true,true,true,true,true,true,true,true,true,true,true,true,true,true,true,false] (eY Tryz.f25)) Q [(4,.pointer (some ⟨gr,0,none⟩)),(5,.pointer (some ⟨go,0,none⟩)),(6,.pointer (some ⟨ab A,ao A+k*4,none⟩)),(7,.pointer (some ⟨gc,0,none⟩)),(9,.pointer (some ⟨gs,0,none⟩)),(10,.pointer (some ⟨gn,0,none⟩)),(13,.int .i64 p1)] [am gs [.slice As s.length cs] 95,aj (.slice As s.length cs) s,am gp [.slice Ap fs.length cp] 24,am gm [.slice a.Af m.frames.length a.cf,.slice a.Ab m.blocks.length a.cb,.slice a.Ai m.inn.length a.ci,.slice a.Ao m.out.length a.co,.int .i64 m.status,.int .i64 m.trap] 29,am gr rz 29,am go [.slice A (k+1) c,.slice Ab m.blocks.length cb,.slice Ai m.inn.length ci,.slice Ao m.out.length co,.int .i64 m.status,.int .i64 m.trap] 29,am gc [.int .i64 o.c,.int .i64 o.a] 49,am gf [fx0,fx1,.int .i64 fr,fx3] 110,am gn [.int .i64 (s.length:Int)] 3,aj (.slice A (k+1) c) (li.map Prod.fst++ [(⟨f,p0,.slice Al l.length cl,.slice As s.length cs⟩:aT)]),aj (.slice Al l.length cl) l,cR li,aj (.slice Ab m.blocks.length cb) m.blocks,aj (.slice Ai m.inn.length ci) m.inn,aj (.slice Ao m.out.length co) m.out]:=by
 have hsl:=R.sl
 have h1:1≤s.length:=R.nd.one (by omega)
 have hv:s.getD (s.length - 1) default=aP s:=dQ.symm
 have hvi:aX (aP s).n:=by rw[dQ];exact R.si _ (cN (by omega))
 have hd:=fT s
 refine dD (fun w h=>eK h (xs:=s) (.s .a)) fun hcap=>?_
 refine ac<|ac<|aa<|af (ai fc a9 rfl rfl (by rfl)) rfl rfl ?_
 refine af (ai fc ar rfl rfl (by rfl)) rfl rfl ?_
 refine af (bx rfl rfl rfl (by omega)) rfl rfl<|bA (t:=219) (v':= .int .i64 ((s.length - 1:Nat):Int)) rfl (by congr 1;omega) ?_
 refine af (aO (k:=(s.length - 1)) az aE (SF.own (xs:=s) rfl fc) (by omega) rfl rfl rfl) rfl rfl ?_
 refine rn 1 [4,5,6,7,9,10,13,221] rfl<|af (a8 (fun w hw=>(SF.val (SF.own rfl fc) (show s.length - 1<s.length by omega) default) w hw 1 _ rfl) rfl rfl ar) rfl rfl ?_
 refine rn 1 [4,5,6,7,9,10,13,223] rfl<|ae ?_
 rw[hv]
 refine aw rfl (fun h0=>?_) (fun h0=>?_)
 ·have h0:(aP s).n=0:=h0
  refine aa<|rn 1 [4,5,6,9,10,224] rfl<|af (ai fc ar rfl rfl (by rfl)) rfl rfl ?_
  refine rn 1 [4,5,6,9,10,13] rfl<|ae<|aa<|af (ai fc a9 rfl rfl (by rfl)) rfl rfl ?_
  refine af (ai fc ar rfl rfl (by rfl)) rfl rfl ?_
  refine af (bx rfl rfl rfl (by omega)) rfl rfl<|bA (t:=228) (v':= .int .i64 ((dl s).length:Int)) rfl (by congr 1;omega) ?_
  refine af (fC (k:=(dl s).length) az aE (by omega) rfl rfl rfl) rfl rfl<|ag (aH _ fc dd rfl rfl rfl rfl rfl (by rfl) rfl (by rfl)) rfl rfl (fun _ _=>?_)
  refine mS (dl s) fc (la s) ?_
  refine bE<|dY (K (dl s) As cs l m.blocks Ab cb m.inn Ai ci m.out Ao co m.status o.a ⟨R.oa,R.hms⟩ (by dsimp only[bP];rw[if_neg (by omega)];rw[if_neg (by omega)];rw[if_neg (by omega)];rw[if_neg (by omega)];rw[if_neg (by omega)];rw[if_neg (by omega)];rw[if_neg (by omega)];rw[if_neg (by omega)];rw[if_neg (by omega)];rw[if_neg (by omega)];rw[if_pos hc,if_pos h0])) ⟨rfl,rfl,rfl,rfl,rfl,trivial⟩ me
 have h0:¬(aP s).n=0:=h0
 refine ax (ap ?_)
 refine aa<|af (ai fc a9 rfl rfl (by rfl)) rfl rfl ?_
 refine af (ai fc ar rfl rfl (by rfl)) rfl rfl ?_
 refine af (bx rfl rfl rfl (by omega)) rfl rfl<|bA (t:=228) (v':= .int .i64 ((dl s).length:Int)) rfl (by congr 1;omega) ?_
 refine af (fC (k:=(dl s).length) az aE (by omega) rfl rfl rfl) rfl rfl<|ag (aH _ fc dd rfl rfl rfl rfl rfl (by rfl) rfl (by rfl)) rfl rfl (fun _ _=>?_)
 refine mS (dl s) fc (la s) ?_
 refine bE<|dY (K (dl s) As cs l m.blocks Ab cb m.inn Ai ci m.out Ao co m.status p1 ⟨R.pi.2.2,R.hms⟩ (by dsimp only[bP];rw[if_neg (by omega)];rw[if_neg (by omega)];rw[if_neg (by omega)];rw[if_neg (by omega)];rw[if_neg (by omega)];rw[if_neg (by omega)];rw[if_neg (by omega)];rw[if_neg (by omega)];rw[if_neg (by omega)];rw[if_neg (by omega)];rw[if_pos hc,if_neg h0])) ⟨rfl,rfl,rfl,rfl,rfl,trivial⟩ me
end
end
section
theorem kU {α:Type} :∀(l:List α),l.length=6→∃a b c d e f,l= [a,b,c,d,e,f]
 | [a,b,c,d,e,f],_=>⟨a,b,c,d,e,f,rfl⟩
 | [],h=>by cases h
 | [_],h=>by cases h
 | [_,_],h=>by cases h
 | [_,_,_],h=>by cases h
 | [_,_,_,_],h=>by cases h
 | [_,_,_,_,_],h=>by cases h
 | _::_::_::_::_::_::_::_,h=>by simp only[List.length_cons] at h;omega
theorem rJ (z:Int) (L:Nat):bL z 0 ((L:Int) - 1)=decide (0≤z∧z<L):=by
 unfold bL
 rw[←Bool.decide_and]
 exact decide_eq_decide.2 (by omega)
theorem CO {bs:List (List Int)} (h:cK bs=0) (r:Int) (j:Nat):aX ((blk bs r).getD j 0):=by
 obtain⟨_,_,h3⟩:=kO h
 by_cases hj:j<(blk bs r).length
 ·have h1:=cN (d:=(0:Int)) hj
  refine kI (Classical.byContradiction fun hno=>?_)
  by_cases hk:(r - 1).toNat<bs.length
  ·have h2:blk bs r∈bs:=cN hk
   have:bs.any dz=true:=List.any_eq_true.2 ⟨_,h2,by unfold dz;exact List.any_eq_true.2 ⟨_,h1,by simpa using hno⟩⟩
   rw[h3] at this
   cases this
  have h2:blk bs r= []:=by unfold blk;rw[List.getD_eq_getElem?_getD,List.getElem?_eq_none (by omega)];rfl
  rw[h2] at hj
  cases hj
 rw[List.getD_eq_getElem?_getD,List.getElem?_eq_none (by omega)]
 show aX 0
 decide
theorem xi {l:List (List Int)} {x:List Int} (h:x∈l):x.length≤du l:=by
 unfold du
 induction l with
 | nil=>cases h
 | cons y l ih=>
  rw[List.map_cons,List.sum_cons]
  rcases List.mem_cons.1 h with rfl | h
  ·omega
  have:=ih h
  omega
theorem ul {bs:List (List Int)} (h:cK bs=0) (r:Int):((blk bs r).length:Int)≤40:=by
 obtain⟨_,h2,_⟩:=kO h
 by_cases hk:(r - 1).toNat<bs.length
 ·have h3:blk bs r∈bs:=cN hk
  have:=xi h3
  omega
 have h3:blk bs r= []:=by unfold blk;rw[List.getD_eq_getElem?_getD,List.getElem?_eq_none (by omega)];rfl
 rw[h3]
 simp
section
variable {P:Program} {n:NF} {B:Nat} {w0:World} {H H':List bj} {Q:Exit→Act→World→Prop} {env:de} {x:Code} {ops:Array Oper} {os:List Oper} {Hq:List bj} {fin:List Nat} {r:gN}
theorem pO {α:Type} [Ow α] [gP α] {v u:Value} {k:Nat} {xs:List (List α)} (hp:cC H (nX v xs k u) H') (h:RO P n B w0 ops Q Hq fin r env (aj v xs::H')):RO P n B w0 ops Q Hq fin r env H:=qp (fun _ hw=>(hw.perm hp).rin) h
end
section
variable {B:Nat} {w0:World} {Q:Exit→Act→World→Prop} (gp gm gr go gc gf gs gn k:Nat) (li:List (aT×aW)) (A Al As Ap Ab Ai Ao:Option Addr) (c cl cs cp cb ci co:Nat) (a:MA) (m:aD) (f p0 p1 fr:Int) (l s:List aS) (o:cn) (fs:List aC) (rz:List Value) (fx0 fx1 fx3:Value)
set_option maxRecDepth 100000 in
set_option maxHeartbeats 1000000 in
theorem D8 (R:jm B w0 fs m a li k Ap cp f p0 p1 l s o fr) (hc:o.c=18) (K:∀(s':List aS) (As':Option Addr) (cs':Nat) (l':List aS) (b':List (List Int)) (Ab':Option Addr) (cb':Nat) (i':List Int) (Ai':Option Addr) (ci':Nat) (o':List Int) (Ao':Option Addr) (co':Nat) (st' nx:Int),aX nx∧aX st'→bP fs m (li.map Prod.snd) ⟨f,p1,l,s⟩ o= .inr ⟨li.map Prod.snd++ [⟨f,nx,l',s'⟩],b',i',o',st',m.trap⟩→XW ⟨551,[]⟩ B w0 Q .normal [(4,.pointer (some ⟨gr,0,none⟩)),(5,.pointer (some ⟨go,0,none⟩)),(6,.pointer (some ⟨ab A,ao A+k*4,none⟩)),(9,.pointer (some ⟨gs,0,none⟩)),(13,.int .i64 nx)] (am gs [.slice As' s'.length cs'] 95::aj (.slice As' s'.length cs') s'::am gr rz 29::am go [.slice A (k+1) c,.slice Ab' b'.length cb',.slice Ai' i'.length ci',.slice Ao' o'.length co',.int .i64 st',.int .i64 m.trap] 29::aj (.slice A (k+1) c) (li.map Prod.fst++ [(⟨f,p0,.slice Al l'.length cl,.slice As s.length cs⟩:aT)])::aj (.slice Al l'.length cl) l'::cR li::aj (.slice Ab' b'.length cb') b'::aj (.slice Ai' i'.length ci') i'::aj (.slice Ao' o'.length co') o':: [])):CW Tryz.prog ⟨551,[]⟩ B w0 (iF [true,true,true,true,true,true,true,true,true,true,true,false,true,false,true,true,true,true,true,true,true,true,true,true,true,true,true,true,true,true,true,true,true,true,true,true,true,true,true,true,true,true,true,true,true,true,true,true,true,false] (eY Tryz.f25)) Q [(4,.pointer (some ⟨gr,0,none⟩)),(5,.pointer (some ⟨go,0,none⟩)),(6,.pointer (some ⟨ab A,ao A+k*4,none⟩)),(9,.pointer (some ⟨gs,0,none⟩)),(13,.int .i64 p1)] [am gs [.slice As s.length cs] 95,aj (.slice As s.length cs) s,am gp [.slice Ap fs.length cp] 24,am gm [.slice a.Af m.frames.length a.cf,.slice a.Ab m.blocks.length a.cb,.slice a.Ai m.inn.length a.ci,.slice a.Ao m.out.length a.co,.int .i64 m.status,.int .i64 m.trap] 29,am gr rz 29,am go [.slice A (k+1) c,.slice Ab m.blocks.length cb,.slice Ai m.inn.length ci,.slice Ao m.out.length co,.int .i64 m.status,.int .i64 m.trap] 29,am gc [.int .i64 o.c,.int .i64 o.a] 49,am gf [fx0,fx1,.int .i64 fr,fx3] 110,am gn [.int .i64 (s.length:Int)] 3,aj (.slice A (k+1) c) (li.map Prod.fst++ [(⟨f,p0,.slice Al l.length cl,.slice As s.length cs⟩:aT)]),aj (.slice Al l.length cl) l,cR li,aj (.slice Ab m.blocks.length cb) m.blocks,aj (.slice Ai m.inn.length ci) m.inn,aj (.slice Ao m.out.length co) m.out]:=by
 have hsl:=R.sl
 refine aa<|af (ai fc a9 rfl rfl (by rfl)) rfl rfl ?_
 refine af (cT (cs:= [_,_]) kY bu rfl rfl (by rfl)) rfl rfl ?_
 refine ag (bh (cs:= [_,_]) az aE bu rfl rfl rfl rfl rfl) rfl rfl (fun g1 _=>?_)
 refine ag (dm (α:=aS) (bytes:=16) (⟨true,0⟩) [] rfl az (bM dk) rfl (eA fc fc) (dI (show aX 0 by decide)) (by omega) (by omega) rfl rfl rfl) rfl rfl (fun⟨A3,c3⟩ _=>?_)
 try dsimp only
 refine ag (aH _ fc dd rfl rfl rfl rfl rfl (by rfl) rfl (by rfl)) rfl rfl (fun _ _=>?_)
 refine bE<|dY (K (s++ [⟨true,0⟩]) A3 c3 l m.blocks Ab cb m.inn Ai ci m.out Ao co m.status p1 ⟨R.pi.2.2,R.hms⟩ (by dsimp only[bP];rw[if_neg (by omega)];rw[if_neg (by omega)];rw[if_neg (by omega)];rw[if_neg (by omega)];rw[if_neg (by omega)];rw[if_neg (by omega)];rw[if_neg (by omega)];rw[if_neg (by omega)];rw[if_neg (by omega)];rw[if_neg (by omega)];rw[if_neg (by omega)];rw[if_neg (by omega)];rw[if_neg (by omega)];rw[if_neg (by omega)];dsimp only[eU];rw[if_neg (by omega)];rw[if_neg (by omega)];rw[if_neg (by omega)];rw[if_neg (by omega)];rw[if_pos hc])) ⟨rfl,rfl,rfl,rfl,rfl,trivial⟩ me
set_option maxRecDepth 100000 in
set_option maxHeartbeats 1000000 in
theorem D6 (R:jm B w0 fs m a li k Ap cp f p0 p1 l s o fr) (hc:o.c=20) (hrz:rz.length=6) (K:∀(s':List aS) (As':Option Addr) (cs':Nat) (l':List aS) (b':List (List Int)) (Ab':Option Addr) (cb':Nat) (i':List Int) (Ai':Option Addr) (ci':Nat) (o':List Int) (Ao':Option Addr) (co':Nat) (st' nx:Int),aX nx∧aX st'→bP fs m (li.map Prod.snd) ⟨f,p1,l,s⟩ o= .inr ⟨li.map Prod.snd++ [⟨f,nx,l',s'⟩],b',i',o',st',m.trap⟩→XW ⟨551,[]⟩ B w0 Q .normal [(4,.pointer (some ⟨gr,0,none⟩)),(5,.pointer (some ⟨go,0,none⟩)),(6,.pointer (some ⟨ab A,ao A+k*4,none⟩)),(9,.pointer (some ⟨gs,0,none⟩)),(13,.int .i64 nx)] (am gs [.slice As' s'.length cs'] 95::aj (.slice As' s'.length cs') s'::am gr rz 29::am go [.slice A (k+1) c,.slice Ab' b'.length cb',.slice Ai' i'.length ci',.slice Ao' o'.length co',.int .i64 st',.int .i64 m.trap] 29::aj (.slice A (k+1) c) (li.map Prod.fst++ [(⟨f,p0,.slice Al l'.length cl,.slice As s.length cs⟩:aT)])::aj (.slice Al l'.length cl) l'::cR li::aj (.slice Ab' b'.length cb') b'::aj (.slice Ai' i'.length ci') i'::aj (.slice Ao' o'.length co') o':: [])) (KT:∀(y:aD) (g:MA),(∃why,bP fs m (li.map Prod.snd) ⟨f,p1,l,s⟩ o= .inl why∧y= {m with status:=3,trap:=why})→XW ⟨551,[]⟩ B w0 Q .ret [(4,.pointer (some ⟨gr,0,none⟩))] (am gr [.slice g.Af y.frames.length g.cf,.slice g.Ab y.blocks.length g.cb,.slice g.Ai y.inn.length g.ci,.slice g.Ao y.out.length g.co,.int .i64 y.status,.int .i64 y.trap] 29::aj (.slice g.Af y.frames.length g.cf) y.frames::aj (.slice g.Ab y.blocks.length g.cb) y.blocks::aj (.slice g.Ai y.inn.length g.ci) y.inn::aj (.slice g.Ao y.out.length g.co) y.out:: [])):CW Tryz.prog ⟨551,[]⟩ B w0 (iF [true,true,true,true,true,true,true,true,true,true,true,false,true,false,true,true,true,true,true,true,true,true,true,true,true,true,true,true,true,true,true,true,true,true,true,true,true,true,true,true,true,true,true,true,true,true,true,true,true,true,true,true,true,false] (eY Tryz.f25)) Q [(3,.pointer (some ⟨gm,0,none⟩)),(4,.pointer (some ⟨gr,0,none⟩)),(5,.pointer (some ⟨go,0,none⟩)),(6,.pointer (some ⟨ab A,ao A+k*4,none⟩)),(9,.pointer (some ⟨gs,0,none⟩)),(10,.pointer (some ⟨gn,0,none⟩)),(13,.int .i64 p1)] [am gs [.slice As s.length cs] 95,aj (.slice As s.length cs) s,am gp [.slice Ap fs.length cp] 24,am gm [.slice a.Af m.frames.length a.cf,.slice a.Ab m.blocks.length a.cb,.slice a.Ai m.inn.length a.ci,.slice a.Ao m.out.length a.co,.int .i64 m.status,.int .i64 m.trap] 29,am gr rz 29,am go [.slice A (k+1) c,.slice Ab m.blocks.length cb,.slice Ai m.inn.length ci,.slice Ao m.out.length co,.int .i64 m.status,.int .i64 m.trap] 29,am gc [.int .i64 o.c,.int .i64 o.a] 49,am gf [fx0,fx1,.int .i64 fr,fx3] 110,am gn [.int .i64 (s.length:Int)] 3,aj (.slice A (k+1) c) (li.map Prod.fst++ [(⟨f,p0,.slice Al l.length cl,.slice As s.length cs⟩:aT)]),aj (.slice Al l.length cl) l,cR li,aj (.slice Ab m.blocks.length cb) m.blocks,aj (.slice Ai m.inn.length ci) m.inn,aj (.slice Ao m.out.length co) m.out]:=by
 have hsl:=R.sl
 have h1:1≤s.length:=R.nd.one (by omega)
 obtain⟨z0,z1,z2,z3,z4,z5,rfl⟩:∃z0 z1 z2 z3 z4 z5,rz= [z0,z1,z2,z3,z4,z5]:=kU rz hrz
 have hol:=R.ol
 have hv:s.getD (s.length - 1) default=aP s:=dQ.symm
 have hvi:aX (aP s).n:=by rw[dQ];exact R.si _ (cN (by omega))
 have hd:=fT s
 refine dD (fun w h=>eK h (xs:=s) (.s .a)) fun hcap=>?_
 refine ac<|ac<|aa<|rn 1 [3,4,5,6,9,10,13,499] rfl<|af (ai fc a5 rfl rfl (by rfl)) rfl rfl ?_
 refine af (aN ah rfl rfl) rfl rfl<|rn 1 [3,4,5,6,9,10,13,502] rfl<|ae<|aw rfl (fun q0=>?_) (fun q0=>?_)
 ·have q0:m.out.length=10:=by have q0:(m.out.length:Int)=10:=q0;omega
  refine ac<|aa<|af (aQ (vs:= [_,_,_,_,_,_]) fc bd aF rfl rfl (by rfl) rfl) rfl rfl ?_
  refine ag (cO rfl rfl rfl mN (fun w hw=>fP a m 5 (by decide) w (R.hm.ro hw) R.fit)) rfl rfl (fun g _=>?_)
  refine ag (aH _ fc aF rfl rfl rfl rfl rfl (by rfl) rfl (by rfl)) rfl rfl (fun _ _=>?_)
  refine ae<|au (ak ?_)
  refine dY (KT {m with status:=3,trap:=5} g ⟨5,by dsimp only[bP];rw[if_neg (by omega)];rw[if_neg (by omega)];rw[if_neg (by omega)];rw[if_neg (by omega)];rw[if_neg (by omega)];rw[if_neg (by omega)];rw[if_neg (by omega)];rw[if_neg (by omega)];rw[if_neg (by omega)];rw[if_neg (by omega)];rw[if_neg (by omega)];rw[if_neg (by omega)];rw[if_neg (by omega)];rw[if_pos hc,if_pos q0],rfl⟩) ⟨rfl,trivial⟩ me
 have q0:¬m.out.length=10:=by have q0:¬(m.out.length:Int)=10:=q0;omega
 refine ax (ap ?_)
 refine ac<|bQ (.still 0 (.still 1 (.still 2 (.still 3 (.still 4 (.still 5 (.still 6 (.still 7 (.pick 8 (.pick 9 (.calm 10 (.pick 11 .done .stop)) .stop) .stop))))))))) [9,10,11] rfl (by kernel_rfl) (by kernel_rfl) ?_
 refine aV ha 1 [4,5,6,9,10,13,505] rfl<|an rfl (ai fc a5 rfl rfl (by rfl)) rfl rfl ha ?_
 refine an rfl (ai fc a9 rfl rfl (by rfl)) rfl rfl ha ?_
 refine an rfl (ai fc ar rfl rfl (by rfl)) rfl rfl ha ?_
 refine an rfl (bx rfl rfl rfl (by omega)) rfl rfl ha ?_
 refine dh (t:=509) (v':= .int .i64 ((s.length - 1:Nat):Int)) rfl (by congr 1;omega) ?_
 refine an rfl (aO (k:=(s.length - 1)) az aE (SF.own (xs:=s) rfl fc) (by omega) rfl rfl rfl) rfl rfl ha ?_
 refine aV ha 1 [4,5,6,9,10,13,506,511] rfl<|an rfl (a8 (fun w hw=>(SF.val (SF.own rfl fc) (show s.length - 1<s.length by omega) default) w hw 1 _ rfl) rfl rfl ar) rfl rfl ha ?_
 refine aB rfl (bh (cs:= [_]) ah aI a7 rfl rfl rfl rfl rfl) rfl rfl (.inr fun _=>ha) (fun g1 _=>?_) ay
 rw[hv]
 refine aB rfl (dm (α:=Int) (bytes:=8) (aP s).n [] rfl ah (bM da) rfl (eA (R:=aj (.slice Ao m.out.length co) m.out) fc fc) (pe hvi) (by omega) (by omega) rfl rfl rfl) rfl rfl (.inl rfl) (fun⟨A4,c4⟩ _=>?_) ay
 try dsimp only
 refine dZ 1 [4,5,6,9,10,13,514,515] rfl<|aB rfl (aH _ fc bV rfl rfl rfl rfl rfl (by rfl) rfl (by rfl)) rfl rfl (.inl rfl) (fun _ _=>?_) ay
 refine cJ<|aa<|af (ai fc a9 rfl rfl (by rfl)) rfl rfl ?_
 refine af (ai fc ar rfl rfl (by rfl)) rfl rfl ?_
 refine af (bx rfl rfl rfl (by omega)) rfl rfl<|bA (t:=518) (v':= .int .i64 ((dl s).length:Int)) rfl (by congr 1;omega) ?_
 refine af (fC (k:=(dl s).length) az aE (by omega) rfl rfl rfl) rfl rfl<|ag (aH _ fc dd rfl rfl rfl rfl rfl (by rfl) rfl (by rfl)) rfl rfl (fun _ _=>?_)
 refine mS (dl s) fc (la s) ?_
 refine bE<|dY (K (dl s) As cs l m.blocks Ab cb m.inn Ai ci (m.out++ [(aP s).n]) A4 c4 m.status p1 ⟨R.pi.2.2,R.hms⟩ (by dsimp only[bP];rw[if_neg (by omega)];rw[if_neg (by omega)];rw[if_neg (by omega)];rw[if_neg (by omega)];rw[if_neg (by omega)];rw[if_neg (by omega)];rw[if_neg (by omega)];rw[if_neg (by omega)];rw[if_neg (by omega)];rw[if_neg (by omega)];rw[if_neg (by omega)];rw[if_neg (by omega)];rw[if_neg (by omega)];rw[if_pos hc,if_neg q0])) ⟨rfl,rfl,rfl,rfl,rfl,trivial⟩ me
set_option maxRecDepth 100000 in
set_option maxHeartbeats 1000000 in
theorem D9 (R:jm B w0 fs m a li k Ap cp f p0 p1 l s o fr) (hc:o.c=17) (hrz:rz.length=6) (K:∀(s':List aS) (As':Option Addr) (cs':Nat) (l':List aS) (b':List (List Int)) (Ab':Option Addr) (cb':Nat) (i':List Int) (Ai':Option Addr) (ci':Nat) (o':List Int) (Ao':Option Addr) (co':Nat) (st' nx:Int),aX nx∧aX st'→bP fs m (li.map Prod.snd) ⟨f,p1,l,s⟩ o= .inr ⟨li.map Prod.snd++ [⟨f,nx,l',s'⟩],b',i',o',st',m.trap⟩→XW ⟨551,[]⟩ B w0 Q .normal [(4,.pointer (some ⟨gr,0,none⟩)),(5,.pointer (some ⟨go,0,none⟩)),(6,.pointer (some ⟨ab A,ao A+k*4,none⟩)),(9,.pointer (some ⟨gs,0,none⟩)),(13,.int .i64 nx)] (am gs [.slice As' s'.length cs'] 95::aj (.slice As' s'.length cs') s'::am gr rz 29::am go [.slice A (k+1) c,.slice Ab' b'.length cb',.slice Ai' i'.length ci',.slice Ao' o'.length co',.int .i64 st',.int .i64 m.trap] 29::aj (.slice A (k+1) c) (li.map Prod.fst++ [(⟨f,p0,.slice Al l'.length cl,.slice As s.length cs⟩:aT)])::aj (.slice Al l'.length cl) l'::cR li::aj (.slice Ab' b'.length cb') b'::aj (.slice Ai' i'.length ci') i'::aj (.slice Ao' o'.length co') o':: [])) (KT:∀(y:aD) (g:MA),(∃why,bP fs m (li.map Prod.snd) ⟨f,p1,l,s⟩ o= .inl why∧y= {m with status:=3,trap:=why})→XW ⟨551,[]⟩ B w0 Q .ret [(4,.pointer (some ⟨gr,0,none⟩))] (am gr [.slice g.Af y.frames.length g.cf,.slice g.Ab y.blocks.length g.cb,.slice g.Ai y.inn.length g.ci,.slice g.Ao y.out.length g.co,.int .i64 y.status,.int .i64 y.trap] 29::aj (.slice g.Af y.frames.length g.cf) y.frames::aj (.slice g.Ab y.blocks.length g.cb) y.blocks::aj (.slice g.Ai y.inn.length g.ci) y.inn::aj (.slice g.Ao y.out.length g.co) y.out:: [])):CW Tryz.prog ⟨551,[]⟩ B w0 (iF [true,true,true,true,true,true,true,true,true,true,true,false,true,false,true,true,true,true,true,true,true,true,true,true,true,true,true,true,true,true,true,true,true,true,true,true,true,true,true,true,true,true,true,true,true,true,true,false] (eY Tryz.f25)) Q [(3,.pointer (some ⟨gm,0,none⟩)),(4,.pointer (some ⟨gr,0,none⟩)),(5,.pointer (some ⟨go,0,none⟩)),(6,.pointer (some ⟨ab A,ao A+k*4,none⟩)),(9,.pointer (some ⟨gs,0,none⟩)),(10,.pointer (some ⟨gn,0,none⟩)),(11,.func (.func 77) #[] #[]),(12,.func (.func 79) #[] #[.pointer (some ⟨gs,0,none⟩),.pointer (some ⟨gn,0,none⟩),.pointer (some ⟨go,0,none⟩)]),(13,.int .i64 p1)] [am gs [.slice As s.length cs] 95,aj (.slice As s.length cs) s,am gp [.slice Ap fs.length cp] 24,am gm [.slice a.Af m.frames.length a.cf,.slice a.Ab m.blocks.length a.cb,.slice a.Ai m.inn.length a.ci,.slice a.Ao m.out.length a.co,.int .i64 m.status,.int .i64 m.trap] 29,am gr rz 29,am go [.slice A (k+1) c,.slice Ab m.blocks.length cb,.slice Ai m.inn.length ci,.slice Ao m.out.length co,.int .i64 m.status,.int .i64 m.trap] 29,am gc [.int .i64 o.c,.int .i64 o.a] 49,am gf [fx0,fx1,.int .i64 fr,fx3] 110,am gn [.int .i64 (s.length:Int)] 3,aj (.slice A (k+1) c) (li.map Prod.fst++ [(⟨f,p0,.slice Al l.length cl,.slice As s.length cs⟩:aT)]),aj (.slice Al l.length cl) l,cR li,aj (.slice Ab m.blocks.length cb) m.blocks,aj (.slice Ai m.inn.length ci) m.inn,aj (.slice Ao m.out.length co) m.out]:=by
 have hsl:=R.sl
 have h1:1≤s.length:=R.nd.one (by omega)
 have hlen:=R.nd.len hc
 obtain⟨z0,z1,z2,z3,z4,z5,rfl⟩:∃z0 z1 z2 z3 z4 z5,rz= [z0,z1,z2,z3,z4,z5]:=kU rz hrz
 have hv:s.getD (s.length - 1) default=aP s:=dQ.symm
 have hvi:aX (aP s).n:=by rw[dQ];exact R.si _ (cN (by omega))
 have e1:∀v:aS,(dl s++ [v]).length=s.length:=fun v=>by rw[←lE h1 v,List.length_set]
 have hbl:=gB R.bl
 have hbn:((blk m.blocks (aP s).n).length:Int)≤40:=ul R.bl _
 refine ac<|aa<|rn 1 [3,4,5,6,9,10,11,13,455] rfl<|ag (jF rfl rfl rfl D2 (fun w hw=>ls gs gn go s.length m.blocks.length As Ab cs cb (.slice A (k+1) c) (.slice Ai m.inn.length ci) (.slice Ao m.out.length co) (.int .i64 m.status) (.int .i64 m.trap) s m.blocks 1 (aP s) rfl rfl ⟨by decide,by omega⟩ hv hlen w (hw.msub (.s fc (.s fc (.s fc (.s fc (.s fc .r)))))))) rfl rfl (fun g _=>?_)
 refine rn 5 [3,4,5,6,9,10,11,13,23,24] rfl<|ae<|ac<|ac<|aa<|rn 2 [3,4,5,6,9,10,11,13,23,460] rfl<|ae<|cP (t:=460) (v':= .bool (decide ((aP s).n=0))) rfl (by rw[Bool.not_not]) ?_
 refine aw rfl (fun h0=>?_) (fun h0=>?_)
 ·have h0:(aP s).n=0:=h0
  simp only[if_pos h0]
  refine ac<|aa<|af (aQ (vs:= [_,_,_,_,_,_]) fc bd aF rfl rfl (by rfl) rfl) rfl rfl ?_
  refine ag (cO rfl rfl rfl mN (fun w hw=>fP a m 1 (by decide) w (R.hm.ro hw) R.fit)) rfl rfl (fun g _=>?_)
  refine ag (aH _ fc aF rfl rfl rfl rfl rfl (by rfl) rfl (by rfl)) rfl rfl (fun _ _=>?_)
  refine ae<|au (ak ?_)
  refine dY (KT {m with status:=3,trap:=1} g ⟨1,by dsimp only[bP];rw[if_neg (by omega)];rw[if_neg (by omega)];rw[if_neg (by omega)];rw[if_neg (by omega)];rw[if_neg (by omega)];rw[if_neg (by omega)];rw[if_neg (by omega)];rw[if_neg (by omega)];rw[if_neg (by omega)];rw[if_neg (by omega)];rw[if_neg (by omega)];rw[if_neg (by omega)];rw[if_neg (by omega)];rw[if_neg (by omega)];dsimp only[eU];rw[if_neg (by omega)];rw[if_neg (by omega)];rw[if_neg (by omega)];rw[if_pos hc,if_pos h0],rfl⟩) ⟨rfl,trivial⟩ me
 have h0:¬(aP s).n=0:=h0
 simp only[if_neg h0]
 refine ax (ap ?_)
 refine bQ (.still 0 (.still 1 (.still 2 (.still 3 (.still 4 (.still 5 (.pick 6 (.still 7 (.pick 8 .done .stop)) .stop))))))) [8] rfl (by kernel_rfl) (by kernel_rfl) ?_
 refine an rfl (ai fc a9 rfl rfl (by rfl)) rfl rfl ha ?_
 refine an rfl (ai fc ar rfl rfl (by rfl)) rfl rfl ha ?_
 refine an rfl (bx rfl rfl rfl (by omega)) rfl rfl ha ?_
 refine aV ha 2 [4,5,6,9,13,463,465,466,467] rfl<|an rfl (aN ah rfl rfl) rfl rfl ha ?_
 refine aB rfl (hJ rfl rfl rfl lm (fun w hw=>il ((blk m.blocks (aP s).n).length:Int) ⟨by omega,by omega⟩ w)) rfl rfl (.inr fun _=>ha) (fun _ _=>?_) ay
 refine dh (t:=465) (v':= .int .i64 ((s.length - 1:Nat):Int)) rfl (by congr 1;omega) ?_
 refine an rfl (aO (k:=(s.length - 1)) az aE (SF.own (xs:=s) rfl fc) (by omega) rfl rfl rfl) rfl rfl ha ?_
 refine aB rfl (eW (α:=aS) (A:=As) (c:=cs) (cF (blk m.blocks (aP s).n).length) default (xs':=dl s++ [cF (blk m.blocks (aP s).n).length]) (lE h1 _).symm fc (by omega) (is _) aE rfl rfl rfl rfl rfl rfl rfl rfl) rfl rfl (.inl rfl) (fun _ _=>?_) ay
 refine pO fc ?_
 refine ck<|dY (K (dl s++ [cF (blk m.blocks (aP s).n).length]) As cs l m.blocks Ab cb m.inn Ai ci m.out Ao co m.status p1 ⟨R.pi.2.2,R.hms⟩ (by dsimp only[bP];rw[if_neg (by omega)];rw[if_neg (by omega)];rw[if_neg (by omega)];rw[if_neg (by omega)];rw[if_neg (by omega)];rw[if_neg (by omega)];rw[if_neg (by omega)];rw[if_neg (by omega)];rw[if_neg (by omega)];rw[if_neg (by omega)];rw[if_neg (by omega)];rw[if_neg (by omega)];rw[if_neg (by omega)];rw[if_neg (by omega)];dsimp only[eU];rw[if_neg (by omega)];rw[if_neg (by omega)];rw[if_neg (by omega)];rw[if_pos hc,if_neg h0])) ⟨rfl,rfl,rfl,rfl,rfl,trivial⟩ (fun w h=>by rw[e1];exact h.msub ms)
set_option maxRecDepth 100000 in
set_option maxHeartbeats 1000000 in
theorem Eb (R:jm B w0 fs m a li k Ap cp f p0 p1 l s o fr) (hc:o.c=15) (hrz:rz.length=6) (K:∀(s':List aS) (As':Option Addr) (cs':Nat) (l':List aS) (b':List (List Int)) (Ab':Option Addr) (cb':Nat) (i':List Int) (Ai':Option Addr) (ci':Nat) (o':List Int) (Ao':Option Addr) (co':Nat) (st' nx:Int),aX nx∧aX st'→bP fs m (li.map Prod.snd) ⟨f,p1,l,s⟩ o= .inr ⟨li.map Prod.snd++ [⟨f,nx,l',s'⟩],b',i',o',st',m.trap⟩→XW ⟨551,[]⟩ B w0 Q .normal [(4,.pointer (some ⟨gr,0,none⟩)),(5,.pointer (some ⟨go,0,none⟩)),(6,.pointer (some ⟨ab A,ao A+k*4,none⟩)),(9,.pointer (some ⟨gs,0,none⟩)),(13,.int .i64 nx)] (am gs [.slice As' s'.length cs'] 95::aj (.slice As' s'.length cs') s'::am gr rz 29::am go [.slice A (k+1) c,.slice Ab' b'.length cb',.slice Ai' i'.length ci',.slice Ao' o'.length co',.int .i64 st',.int .i64 m.trap] 29::aj (.slice A (k+1) c) (li.map Prod.fst++ [(⟨f,p0,.slice Al l'.length cl,.slice As s.length cs⟩:aT)])::aj (.slice Al l'.length cl) l'::cR li::aj (.slice Ab' b'.length cb') b'::aj (.slice Ai' i'.length ci') i'::aj (.slice Ao' o'.length co') o':: [])) (KT:∀(y:aD) (g:MA),(∃why,bP fs m (li.map Prod.snd) ⟨f,p1,l,s⟩ o= .inl why∧y= {m with status:=3,trap:=why})→XW ⟨551,[]⟩ B w0 Q .ret [(4,.pointer (some ⟨gr,0,none⟩))] (am gr [.slice g.Af y.frames.length g.cf,.slice g.Ab y.blocks.length g.cb,.slice g.Ai y.inn.length g.ci,.slice g.Ao y.out.length g.co,.int .i64 y.status,.int .i64 y.trap] 29::aj (.slice g.Af y.frames.length g.cf) y.frames::aj (.slice g.Ab y.blocks.length g.cb) y.blocks::aj (.slice g.Ai y.inn.length g.ci) y.inn::aj (.slice g.Ao y.out.length g.co) y.out:: [])):CW Tryz.prog ⟨551,[]⟩ B w0 (iF [true,true,true,true,true,true,true,true,true,true,true,false,true,false,true,true,true,true,true,true,true,true,true,true,true,true,true,true,true,true,true,true,true,true,true,true,true,true,true,true,true,true,true,false] (eY Tryz.f25)) Q [(3,.pointer (some ⟨gm,0,none⟩)),(4,.pointer (some ⟨gr,0,none⟩)),(5,.pointer (some ⟨go,0,none⟩)),(6,.pointer (some ⟨ab A,ao A+k*4,none⟩)),(9,.pointer (some ⟨gs,0,none⟩)),(10,.pointer (some ⟨gn,0,none⟩)),(11,.func (.func 77) #[] #[]),(12,.func (.func 79) #[] #[.pointer (some ⟨gs,0,none⟩),.pointer (some ⟨gn,0,none⟩),.pointer (some ⟨go,0,none⟩)]),(13,.int .i64 p1)] [am gs [.slice As s.length cs] 95,aj (.slice As s.length cs) s,am gp [.slice Ap fs.length cp] 24,am gm [.slice a.Af m.frames.length a.cf,.slice a.Ab m.blocks.length a.cb,.slice a.Ai m.inn.length a.ci,.slice a.Ao m.out.length a.co,.int .i64 m.status,.int .i64 m.trap] 29,am gr rz 29,am go [.slice A (k+1) c,.slice Ab m.blocks.length cb,.slice Ai m.inn.length ci,.slice Ao m.out.length co,.int .i64 m.status,.int .i64 m.trap] 29,am gc [.int .i64 o.c,.int .i64 o.a] 49,am gf [fx0,fx1,.int .i64 fr,fx3] 110,am gn [.int .i64 (s.length:Int)] 3,aj (.slice A (k+1) c) (li.map Prod.fst++ [(⟨f,p0,.slice Al l.length cl,.slice As s.length cs⟩:aT)]),aj (.slice Al l.length cl) l,cR li,aj (.slice Ab m.blocks.length cb) m.blocks,aj (.slice Ai m.inn.length ci) m.inn,aj (.slice Ao m.out.length co) m.out]:=by
 have hsl:=R.sl
 have h1:2≤s.length:=R.nd.two (by omega)
 have hlen:=R.nd.get hc
 obtain⟨z0,z1,z2,z3,z4,z5,rfl⟩:∃z0 z1 z2 z3 z4 z5,rz= [z0,z1,z2,z3,z4,z5]:=kU rz hrz
 have hv:s.getD (s.length - 1) default=aP s:=dQ.symm
 have hvi:aX (aP s).n:=by rw[dQ];exact R.si _ (cN (by omega))
 have hv2:s.getD (s.length - 2) default=aP (dl s):=(gS (by omega)).symm
 have hvi2:aX (aP (dl s)).n:=by rw[gS (by omega)];exact R.si _ (cN (by omega))
 have hd:=ph s
 refine dD (fun w h=>eK h (xs:=s) (.s .a)) fun hcap=>?_
 have hbl:=gB R.bl
 have hbn:((blk m.blocks (aP (dl s)).n).length:Int)≤40:=ul R.bl _
 refine ac<|aa<|rn 1 [3,4,5,6,9,10,11,13,372] rfl<|ag (jF rfl rfl rfl D2 (fun w hw=>ls gs gn go s.length m.blocks.length As Ab cs cb (.slice A (k+1) c) (.slice Ai m.inn.length ci) (.slice Ao m.out.length co) (.int .i64 m.status) (.int .i64 m.trap) s m.blocks 2 (aP (dl s)) rfl rfl ⟨by decide,by omega⟩ hv2 hlen w (hw.msub (.s fc (.s fc (.s fc (.s fc (.s fc .r)))))))) rfl rfl (fun g _=>?_)
 refine rn 5 [3,4,5,6,9,10,11,13,19,20] rfl<|ae<|ac<|ac<|aa<|rn 2 [3,4,5,6,9,10,11,13,19,377] rfl<|ae<|cP (t:=377) (v':= .bool (decide ((aP (dl s)).n=0))) rfl (by rw[Bool.not_not]) ?_
 refine aw rfl (fun h0=>?_) (fun h0=>?_)
 ·have h0:(aP (dl s)).n=0:=h0
  simp only[if_pos h0]
  refine ac<|aa<|af (aQ (vs:= [_,_,_,_,_,_]) fc bd aF rfl rfl (by rfl) rfl) rfl rfl ?_
  refine ag (cO rfl rfl rfl mN (fun w hw=>fP a m 1 (by decide) w (R.hm.ro hw) R.fit)) rfl rfl (fun g _=>?_)
  refine ag (aH _ fc aF rfl rfl rfl rfl rfl (by rfl) rfl (by rfl)) rfl rfl (fun _ _=>?_)
  refine ae<|au (ak ?_)
  refine dY (KT {m with status:=3,trap:=1} g ⟨1,by dsimp only[bP];rw[if_neg (by omega)];rw[if_neg (by omega)];rw[if_neg (by omega)];rw[if_neg (by omega)];rw[if_neg (by omega)];rw[if_neg (by omega)];rw[if_neg (by omega)];rw[if_neg (by omega)];rw[if_neg (by omega)];rw[if_neg (by omega)];rw[if_neg (by omega)];rw[if_neg (by omega)];rw[if_neg (by omega)];rw[if_neg (by omega)];dsimp only[eU];rw[if_neg (by omega)];rw[if_pos hc,if_pos h0],rfl⟩) ⟨rfl,trivial⟩ me
 have h0:¬(aP (dl s)).n=0:=h0
 simp only[if_neg h0]
 refine ax (ap ?_)
 refine ac<|ac<|aa<|af (ai fc a9 rfl rfl (by rfl)) rfl rfl ?_
 refine af (ai fc ar rfl rfl (by rfl)) rfl rfl ?_
 refine af (bx rfl rfl rfl (by omega)) rfl rfl<|bA (t:=382) (v':= .int .i64 ((s.length - 1:Nat):Int)) rfl (by congr 1;omega) ?_
 refine af (aO (k:=(s.length - 1)) az aE (SF.own (xs:=s) rfl fc) (by omega) rfl rfl rfl) rfl rfl ?_
 refine rn 1 [3,4,5,6,9,10,11,13,19,384] rfl<|af (a8 (fun w hw=>(SF.val (SF.own rfl fc) (show s.length - 1<s.length by omega) default) w hw 1 _ rfl) rfl rfl ar) rfl rfl ?_
 refine rn 1 [3,4,5,6,9,10,11,13,19,385,386] rfl<|af (aN ah rfl rfl) rfl rfl<|af (bx rfl rfl rfl (by omega)) rfl rfl ?_
 rw[hv]
 refine ag (bK rfl rfl rfl gQ (fun w hw=>(ek (aP s).n 0 (((blk m.blocks (aP (dl s)).n).length:Int) - 1) w).mono fun e w' h=>by obtain⟨h1,rfl⟩:=h;exact⟨h1,Below.refl _ _⟩)) rfl rfl (fun _ _=>?_)
 refine rn 1 [3,4,5,6,9,10,11,13,19,390] rfl<|ae<|cP (t:=390) (v':= .bool (!decide (0≤(aP s).n∧(aP s).n<(blk m.blocks (aP (dl s)).n).length))) rfl (by rw[rJ]) ?_
 refine b9 rfl (fun q1=>?_) (fun q1=>?_)
 ·have q1:¬(0≤(aP s).n∧(aP s).n<(blk m.blocks (aP (dl s)).n).length):=q1
  refine ac<|aa<|af (aQ (vs:= [_,_,_,_,_,_]) fc bd aF rfl rfl (by rfl) rfl) rfl rfl ?_
  refine ag (cO rfl rfl rfl mN (fun w hw=>fP a m 2 (by decide) w (R.hm.ro hw) R.fit)) rfl rfl (fun g _=>?_)
  refine ag (aH _ fc aF rfl rfl rfl rfl rfl (by rfl) rfl (by rfl)) rfl rfl (fun _ _=>?_)
  refine ae<|au (ak ?_)
  refine dY (KT {m with status:=3,trap:=2} g ⟨2,by dsimp only[bP];rw[if_neg (by omega)];rw[if_neg (by omega)];rw[if_neg (by omega)];rw[if_neg (by omega)];rw[if_neg (by omega)];rw[if_neg (by omega)];rw[if_neg (by omega)];rw[if_neg (by omega)];rw[if_neg (by omega)];rw[if_neg (by omega)];rw[if_neg (by omega)];rw[if_neg (by omega)];rw[if_neg (by omega)];rw[if_neg (by omega)];dsimp only[eU];rw[if_neg (by omega)];rw[if_pos hc,if_neg h0,if_pos q1],rfl⟩) ⟨rfl,trivial⟩ me
 have q1:0≤(aP s).n∧(aP s).n<(blk m.blocks (aP (dl s)).n).length:=q1
 have q2:(aP s).n<((m.blocks.getD ((aP (dl s)).n - 1).toNat []).length:Int):=q1.2
 refine ax (ap ?_)
 refine bQ (.still 0 (.still 1 (.still 2 (.still 3 (.still 4 (.still 5 (.still 6 (.still 7 (.still 8 (.still 9 (.still 10 (.still 11 (.still 12 (.still 13 (.pick 14 (.pick 15 (.pick 16 (.pick 17 .done .stop) .stop) .stop) .stop))))))))))))))) [16,17] rfl (by kernel_rfl) (by kernel_rfl) ?_
 refine an rfl (ai fc a9 rfl rfl (by rfl)) rfl rfl ha ?_
 refine an rfl (ai fc ar rfl rfl (by rfl)) rfl rfl ha ?_
 refine an rfl (bx rfl rfl rfl (by omega)) rfl rfl ha ?_
 refine dh (t:=395) (v':= .int .i64 ((dl (dl s)).length:Int)) rfl (by congr 1;omega) ?_
 refine an rfl (fC (k:=(dl (dl s)).length) az aE (by omega) rfl rfl rfl) rfl rfl ha ?_
 refine aV ha 2 [4,5,6,9,10,13,396,397,398] rfl<|an rfl (ai fc a9 rfl rfl (by rfl)) rfl rfl ha ?_
 refine an rfl (ai fc ar rfl rfl (by rfl)) rfl rfl ha ?_
 refine an rfl (bx rfl rfl rfl (by omega)) rfl rfl ha ?_
 refine dh (t:=401) (v':= .int .i64 ((s.length - 1:Nat):Int)) rfl (by congr 1;omega) ?_
 refine an rfl (aO (k:=(s.length - 1)) az aE (SF.own (xs:=s) rfl fc) (by omega) rfl rfl rfl) rfl rfl ha ?_
 refine aV ha 1 [4,5,6,9,13,396,397,398,403] rfl<|an rfl (a8 (fun w hw=>(SF.val (SF.own rfl fc) (show s.length - 1<s.length by omega) default) w hw 1 _ rfl) rfl rfl ar) rfl rfl ha ?_
 rw[hv]
 refine dh (t:=404) (v':= .int .i64 (((aP s).n.toNat:Nat):Int)) rfl (by congr 1;omega) ?_
 refine an rfl (aO (k:=(aP s).n.toNat) ah aI (SF.rin (k:=((aP (dl s)).n - 1).toNat) rfl fc) (by omega) rfl rfl rfl) rfl rfl ha ?_
 refine an rfl (a8 (SF.int (SF.rin (k:=((aP (dl s)).n - 1).toNat) rfl fc) (by omega)) rfl rfl ar) rfl rfl ha ?_
 refine aB rfl (hJ rfl rfl rfl lm (fun w hw=>il ((blk m.blocks (aP (dl s)).n).getD (aP s).n.toNat 0) (CO R.bl _ _) w)) rfl rfl (.inr fun _=>ha) (fun _ _=>?_) ay
 refine aB rfl (bh (cs:= [_,_]) az aE bu rfl rfl rfl rfl rfl) rfl rfl (.inr fun _=>ha) (fun g1 _=>?_) ay
 refine qo (dl (dl s)) fc (na s) ?_
 refine aB rfl (dm (α:=aS) (bytes:=16) (cF ((blk m.blocks (aP (dl s)).n).getD (aP s).n.toNat 0)) [] rfl az (bM dk) rfl (eA fc fc) (dI (is _)) (by omega) (by omega) rfl rfl rfl) rfl rfl (.inl rfl) (fun⟨A3,c3⟩ _=>?_) ay
 try dsimp only
 refine aB rfl (aH _ fc dd rfl rfl rfl rfl rfl (by rfl) rfl (by rfl)) rfl rfl (.inl rfl) (fun _ _=>?_) ay
 refine pO fc ?_
 refine ck<|dY (K (dl (dl s)++ [cF ((blk m.blocks (aP (dl s)).n).getD (aP s).n.toNat 0)]) A3 c3 l m.blocks Ab cb m.inn Ai ci m.out Ao co m.status p1 ⟨R.pi.2.2,R.hms⟩ (by dsimp only[bP];rw[if_neg (by omega)];rw[if_neg (by omega)];rw[if_neg (by omega)];rw[if_neg (by omega)];rw[if_neg (by omega)];rw[if_neg (by omega)];rw[if_neg (by omega)];rw[if_neg (by omega)];rw[if_neg (by omega)];rw[if_neg (by omega)];rw[if_neg (by omega)];rw[if_neg (by omega)];rw[if_neg (by omega)];rw[if_neg (by omega)];dsimp only[eU];rw[if_neg (by omega)];rw[if_pos hc,if_neg h0,if_neg (fun h=>h q1)])) ⟨rfl,rfl,rfl,rfl,rfl,trivial⟩ me
set_option maxRecDepth 100000 in
set_option maxHeartbeats 1000000 in
theorem Ea (R:jm B w0 fs m a li k Ap cp f p0 p1 l s o fr) (hc:o.c=16) (hrz:rz.length=6) (K:∀(s':List aS) (As':Option Addr) (cs':Nat) (l':List aS) (b':List (List Int)) (Ab':Option Addr) (cb':Nat) (i':List Int) (Ai':Option Addr) (ci':Nat) (o':List Int) (Ao':Option Addr) (co':Nat) (st' nx:Int),aX nx∧aX st'→bP fs m (li.map Prod.snd) ⟨f,p1,l,s⟩ o= .inr ⟨li.map Prod.snd++ [⟨f,nx,l',s'⟩],b',i',o',st',m.trap⟩→XW ⟨551,[]⟩ B w0 Q .normal [(4,.pointer (some ⟨gr,0,none⟩)),(5,.pointer (some ⟨go,0,none⟩)),(6,.pointer (some ⟨ab A,ao A+k*4,none⟩)),(9,.pointer (some ⟨gs,0,none⟩)),(13,.int .i64 nx)] (am gs [.slice As' s'.length cs'] 95::aj (.slice As' s'.length cs') s'::am gr rz 29::am go [.slice A (k+1) c,.slice Ab' b'.length cb',.slice Ai' i'.length ci',.slice Ao' o'.length co',.int .i64 st',.int .i64 m.trap] 29::aj (.slice A (k+1) c) (li.map Prod.fst++ [(⟨f,p0,.slice Al l'.length cl,.slice As s.length cs⟩:aT)])::aj (.slice Al l'.length cl) l'::cR li::aj (.slice Ab' b'.length cb') b'::aj (.slice Ai' i'.length ci') i'::aj (.slice Ao' o'.length co') o':: [])) (KT:∀(y:aD) (g:MA),(∃why,bP fs m (li.map Prod.snd) ⟨f,p1,l,s⟩ o= .inl why∧y= {m with status:=3,trap:=why})→XW ⟨551,[]⟩ B w0 Q .ret [(4,.pointer (some ⟨gr,0,none⟩))] (am gr [.slice g.Af y.frames.length g.cf,.slice g.Ab y.blocks.length g.cb,.slice g.Ai y.inn.length g.ci,.slice g.Ao y.out.length g.co,.int .i64 y.status,.int .i64 y.trap] 29::aj (.slice g.Af y.frames.length g.cf) y.frames::aj (.slice g.Ab y.blocks.length g.cb) y.blocks::aj (.slice g.Ai y.inn.length g.ci) y.inn::aj (.slice g.Ao y.out.length g.co) y.out:: [])):CW Tryz.prog ⟨551,[]⟩ B w0 (iF [true,true,true,true,true,true,true,true,true,true,true,false,true,false,true,true,true,true,true,true,true,true,true,true,true,true,true,true,true,true,true,true,true,true,true,true,true,true,true,true,true,true,true,true,true,false] (eY Tryz.f25)) Q [(3,.pointer (some ⟨gm,0,none⟩)),(4,.pointer (some ⟨gr,0,none⟩)),(5,.pointer (some ⟨go,0,none⟩)),(6,.pointer (some ⟨ab A,ao A+k*4,none⟩)),(9,.pointer (some ⟨gs,0,none⟩)),(10,.pointer (some ⟨gn,0,none⟩)),(12,.func (.func 79) #[] #[.pointer (some ⟨gs,0,none⟩),.pointer (some ⟨gn,0,none⟩),.pointer (some ⟨go,0,none⟩)]),(13,.int .i64 p1)] [am gs [.slice As s.length cs] 95,aj (.slice As s.length cs) s,am gp [.slice Ap fs.length cp] 24,am gm [.slice a.Af m.frames.length a.cf,.slice a.Ab m.blocks.length a.cb,.slice a.Ai m.inn.length a.ci,.slice a.Ao m.out.length a.co,.int .i64 m.status,.int .i64 m.trap] 29,am gr rz 29,am go [.slice A (k+1) c,.slice Ab m.blocks.length cb,.slice Ai m.inn.length ci,.slice Ao m.out.length co,.int .i64 m.status,.int .i64 m.trap] 29,am gc [.int .i64 o.c,.int .i64 o.a] 49,am gf [fx0,fx1,.int .i64 fr,fx3] 110,am gn [.int .i64 (s.length:Int)] 3,aj (.slice A (k+1) c) (li.map Prod.fst++ [(⟨f,p0,.slice Al l.length cl,.slice As s.length cs⟩:aT)]),aj (.slice Al l.length cl) l,cR li,aj (.slice Ab m.blocks.length cb) m.blocks,aj (.slice Ai m.inn.length ci) m.inn,aj (.slice Ao m.out.length co) m.out]:=by
 have hsl:=R.sl
 have h1:3≤s.length:=R.nd.three hc
 have hlen:=R.nd.set hc
 obtain⟨z0,z1,z2,z3,z4,z5,rfl⟩:∃z0 z1 z2 z3 z4 z5,rz= [z0,z1,z2,z3,z4,z5]:=kU rz hrz
 have hv:s.getD (s.length - 1) default=aP s:=dQ.symm
 have hvi:aX (aP s).n:=by rw[dQ];exact R.si _ (cN (by omega))
 have hv2:s.getD (s.length - 2) default=aP (dl s):=(gS (by omega)).symm
 have hvi2:aX (aP (dl s)).n:=by rw[gS (by omega)];exact R.si _ (cN (by omega))
 have hv3:s.getD (s.length - 3) default=aP (dl (dl s)):=(vQ (by omega)).symm
 have hd:=CM s
 refine dD (fun w h=>eK h (xs:=s) (.s .a)) fun hcap=>?_
 have hbl:=gB R.bl
 have hbn:((blk m.blocks (aP (dl (dl s))).n).length:Int)≤40:=ul R.bl _
 refine ac<|aa<|rn 1 [3,4,5,6,9,10,13,413] rfl<|ag (jF rfl rfl rfl D2 (fun w hw=>ls gs gn go s.length m.blocks.length As Ab cs cb (.slice A (k+1) c) (.slice Ai m.inn.length ci) (.slice Ao m.out.length co) (.int .i64 m.status) (.int .i64 m.trap) s m.blocks 3 (aP (dl (dl s))) rfl rfl ⟨by decide,by omega⟩ hv3 hlen w (hw.msub (.s fc (.s fc (.s fc (.s fc (.s fc .r)))))))) rfl rfl (fun g _=>?_)
 refine rn 5 [3,4,5,6,9,10,13,21,22] rfl<|ae<|ac<|ac<|aa<|rn 2 [3,4,5,6,9,10,13,21,418] rfl<|ae<|cP (t:=418) (v':= .bool (decide ((aP (dl (dl s))).n=0))) rfl (by rw[Bool.not_not]) ?_
 refine aw rfl (fun h0=>?_) (fun h0=>?_)
 ·have h0:(aP (dl (dl s))).n=0:=h0
  simp only[if_pos h0]
  refine ac<|aa<|af (aQ (vs:= [_,_,_,_,_,_]) fc bd aF rfl rfl (by rfl) rfl) rfl rfl ?_
  refine ag (cO rfl rfl rfl mN (fun w hw=>fP a m 1 (by decide) w (R.hm.ro hw) R.fit)) rfl rfl (fun g _=>?_)
  refine ag (aH _ fc aF rfl rfl rfl rfl rfl (by rfl) rfl (by rfl)) rfl rfl (fun _ _=>?_)
  refine ae<|au (ak ?_)
  refine dY (KT {m with status:=3,trap:=1} g ⟨1,by dsimp only[bP];rw[if_neg (by omega)];rw[if_neg (by omega)];rw[if_neg (by omega)];rw[if_neg (by omega)];rw[if_neg (by omega)];rw[if_neg (by omega)];rw[if_neg (by omega)];rw[if_neg (by omega)];rw[if_neg (by omega)];rw[if_neg (by omega)];rw[if_neg (by omega)];rw[if_neg (by omega)];rw[if_neg (by omega)];rw[if_neg (by omega)];dsimp only[eU];rw[if_neg (by omega)];rw[if_neg (by omega)];rw[if_pos hc,if_pos h0],rfl⟩) ⟨rfl,trivial⟩ me
 have h0:¬(aP (dl (dl s))).n=0:=h0
 simp only[if_neg h0]
 refine ax (ap ?_)
 refine ac<|ac<|aa<|af (ai fc a9 rfl rfl (by rfl)) rfl rfl ?_
 refine af (ai fc ar rfl rfl (by rfl)) rfl rfl ?_
 refine af (bx rfl rfl rfl (by omega)) rfl rfl<|bA (t:=423) (v':= .int .i64 ((s.length - 2:Nat):Int)) rfl (by congr 1;omega) ?_
 refine af (aO (k:=(s.length - 2)) az aE (SF.own (xs:=s) rfl fc) (by omega) rfl rfl rfl) rfl rfl ?_
 refine rn 1 [3,4,5,6,9,10,13,21,425] rfl<|af (a8 (fun w hw=>(SF.val (SF.own rfl fc) (show s.length - 2<s.length by omega) default) w hw 1 _ rfl) rfl rfl ar) rfl rfl ?_
 refine rn 1 [3,4,5,6,9,10,13,21,426,427] rfl<|af (aN ah rfl rfl) rfl rfl<|af (bx rfl rfl rfl (by omega)) rfl rfl ?_
 rw[hv2]
 refine ag (bK rfl rfl rfl gQ (fun w hw=>(ek (aP (dl s)).n 0 (((blk m.blocks (aP (dl (dl s))).n).length:Int) - 1) w).mono fun e w' h=>by obtain⟨h1,rfl⟩:=h;exact⟨h1,Below.refl _ _⟩)) rfl rfl (fun _ _=>?_)
 refine rn 1 [3,4,5,6,9,10,13,21,431] rfl<|ae<|cP (t:=431) (v':= .bool (!decide (0≤(aP (dl s)).n∧(aP (dl s)).n<(blk m.blocks (aP (dl (dl s))).n).length))) rfl (by rw[rJ]) ?_
 refine b9 rfl (fun q1=>?_) (fun q1=>?_)
 ·have q1:¬(0≤(aP (dl s)).n∧(aP (dl s)).n<(blk m.blocks (aP (dl (dl s))).n).length):=q1
  refine ac<|aa<|af (aQ (vs:= [_,_,_,_,_,_]) fc bd aF rfl rfl (by rfl) rfl) rfl rfl ?_
  refine ag (cO rfl rfl rfl mN (fun w hw=>fP a m 2 (by decide) w (R.hm.ro hw) R.fit)) rfl rfl (fun g _=>?_)
  refine ag (aH _ fc aF rfl rfl rfl rfl rfl (by rfl) rfl (by rfl)) rfl rfl (fun _ _=>?_)
  refine ae<|au (ak ?_)
  refine dY (KT {m with status:=3,trap:=2} g ⟨2,by dsimp only[bP];rw[if_neg (by omega)];rw[if_neg (by omega)];rw[if_neg (by omega)];rw[if_neg (by omega)];rw[if_neg (by omega)];rw[if_neg (by omega)];rw[if_neg (by omega)];rw[if_neg (by omega)];rw[if_neg (by omega)];rw[if_neg (by omega)];rw[if_neg (by omega)];rw[if_neg (by omega)];rw[if_neg (by omega)];rw[if_neg (by omega)];dsimp only[eU];rw[if_neg (by omega)];rw[if_neg (by omega)];rw[if_pos hc,if_neg h0,if_pos q1],rfl⟩) ⟨rfl,trivial⟩ me
 have q1:0≤(aP (dl s)).n∧(aP (dl s)).n<(blk m.blocks (aP (dl (dl s))).n).length:=q1
 have q2:(aP (dl s)).n<((m.blocks.getD ((aP (dl (dl s))).n - 1).toNat []).length:Int):=q1.2
 have hpl:(put m.blocks (aP (dl (dl s))).n (aP (dl s)).n (aP s).n).length=m.blocks.length:=by unfold put;rw[List.length_set]
 refine ax (ap ?_)
 refine ac<|bQ (.still 0 (.still 1 (.still 2 (.still 3 (.still 4 (.still 5 (.still 6 (.still 7 (.still 8 (.still 9 (.still 10 (.still 11 (.still 12 (.still 13 (.pick 14 .done .stop))))))))))))))) [14] rfl (by kernel_rfl) (by kernel_rfl) ?_
 refine aV ha 1 [4,5,6,9,10,13,434] rfl<|an rfl (ai fc a9 rfl rfl (by rfl)) rfl rfl ha ?_
 refine an rfl (ai fc ar rfl rfl (by rfl)) rfl rfl ha ?_
 refine an rfl (bx rfl rfl rfl (by omega)) rfl rfl ha ?_
 refine dh (t:=437) (v':= .int .i64 ((s.length - 2:Nat):Int)) rfl (by congr 1;omega) ?_
 refine an rfl (aO (k:=(s.length - 2)) az aE (SF.own (xs:=s) rfl fc) (by omega) rfl rfl rfl) rfl rfl ha ?_
 refine aV ha 1 [4,5,6,9,10,13,434,439] rfl<|an rfl (a8 (fun w hw=>(SF.val (SF.own rfl fc) (show s.length - 2<s.length by omega) default) w hw 1 _ rfl) rfl rfl ar) rfl rfl ha ?_
 refine an rfl (ai fc a9 rfl rfl (by rfl)) rfl rfl ha ?_
 refine an rfl (ai fc ar rfl rfl (by rfl)) rfl rfl ha ?_
 refine an rfl (bx rfl rfl rfl (by omega)) rfl rfl ha ?_
 rw[hv2]
 refine dh (t:=443) (v':= .int .i64 ((s.length - 1:Nat):Int)) rfl (by congr 1;omega) ?_
 refine an rfl (aO (k:=(s.length - 1)) az aE (SF.own (xs:=s) rfl fc) (by omega) rfl rfl rfl) rfl rfl ha ?_
 refine aV ha 1 [4,5,6,9,10,13,434,440,445] rfl<|an rfl (a8 (fun w hw=>(SF.val (SF.own rfl fc) (show s.length - 1<s.length by omega) default) w hw 1 _ rfl) rfl rfl ar) rfl rfl ha ?_
 rw[hv]
 refine dh (t:=440) (v':= .int .i64 (((aP (dl s)).n.toNat:Nat):Int)) rfl (by congr 1;omega) ?_
 refine an rfl (aO (k:=(aP (dl s)).n.toNat) ah aI (SF.rin (k:=((aP (dl (dl s))).n - 1).toNat) rfl fc) (by omega) rfl rfl rfl) rfl rfl ha ?_
 refine aB rfl (vL (A:=Ab) (m:=m.blocks.length) (c:=cb) (k:=((aP (dl (dl s))).n - 1).toNat) (q:=(aP (dl s)).n.toNat) (xs':=put m.blocks (aP (dl (dl s))).n (aP (dl s)).n (aP s).n) rfl fc (by have:=q1.2;unfold blk at this;omega) hvi aI rfl rfl rfl) rfl rfl (.inl rfl) (fun _ _=>?_) ay
 refine cJ<|aa<|af (ai fc a9 rfl rfl (by rfl)) rfl rfl ?_
 refine af (ai fc ar rfl rfl (by rfl)) rfl rfl ?_
 refine af (bx rfl rfl rfl (by omega)) rfl rfl<|bA (t:=450) (v':= .int .i64 ((dl (dl (dl s))).length:Int)) rfl (by congr 1;omega) ?_
 refine af (fC (k:=(dl (dl (dl s))).length) az aE (by omega) rfl rfl rfl) rfl rfl<|ag (aH _ fc dd rfl rfl rfl rfl rfl (by rfl) rfl (by rfl)) rfl rfl (fun _ _=>?_)
 refine mS (dl (dl (dl s))) fc (CL s) ?_
 refine bE<|dY (K (dl (dl (dl s))) As cs l (put m.blocks (aP (dl (dl s))).n (aP (dl s)).n (aP s).n) Ab cb m.inn Ai ci m.out Ao co m.status p1 ⟨R.pi.2.2,R.hms⟩ (by dsimp only[bP];rw[if_neg (by omega)];rw[if_neg (by omega)];rw[if_neg (by omega)];rw[if_neg (by omega)];rw[if_neg (by omega)];rw[if_neg (by omega)];rw[if_neg (by omega)];rw[if_neg (by omega)];rw[if_neg (by omega)];rw[if_neg (by omega)];rw[if_neg (by omega)];rw[if_neg (by omega)];rw[if_neg (by omega)];rw[if_neg (by omega)];dsimp only[eU];rw[if_neg (by omega)];rw[if_neg (by omega)];rw[if_pos hc,if_neg h0,if_neg (fun h=>h q1)])) ⟨rfl,rfl,rfl,rfl,rfl,trivial⟩ (fun w h=>by rw[hpl];exact h.msub ms)
set_option maxRecDepth 100000 in
set_option maxHeartbeats 1000000 in
theorem D7 (R:jm B w0 fs m a li k Ap cp f p0 p1 l s o fr) (hc:o.c=19) (K:∀(s':List aS) (As':Option Addr) (cs':Nat) (l':List aS) (b':List (List Int)) (Ab':Option Addr) (cb':Nat) (i':List Int) (Ai':Option Addr) (ci':Nat) (o':List Int) (Ao':Option Addr) (co':Nat) (st' nx:Int),aX nx∧aX st'→bP fs m (li.map Prod.snd) ⟨f,p1,l,s⟩ o= .inr ⟨li.map Prod.snd++ [⟨f,nx,l',s'⟩],b',i',o',st',m.trap⟩→XW ⟨551,[]⟩ B w0 Q .normal [(4,.pointer (some ⟨gr,0,none⟩)),(5,.pointer (some ⟨go,0,none⟩)),(6,.pointer (some ⟨ab A,ao A+k*4,none⟩)),(9,.pointer (some ⟨gs,0,none⟩)),(13,.int .i64 nx)] (am gs [.slice As' s'.length cs'] 95::aj (.slice As' s'.length cs') s'::am gr rz 29::am go [.slice A (k+1) c,.slice Ab' b'.length cb',.slice Ai' i'.length ci',.slice Ao' o'.length co',.int .i64 st',.int .i64 m.trap] 29::aj (.slice A (k+1) c) (li.map Prod.fst++ [(⟨f,p0,.slice Al l'.length cl,.slice As s.length cs⟩:aT)])::aj (.slice Al l'.length cl) l'::cR li::aj (.slice Ab' b'.length cb') b'::aj (.slice Ai' i'.length ci') i'::aj (.slice Ao' o'.length co') o':: [])):CW Tryz.prog ⟨551,[]⟩ B w0 (iF [true,true,true,true,true,true,true,true,true,true,true,false,true,false,true,true,true,true,true,true,true,true,true,true,true,true,true,true,true,true,true,true,true,true,true,true,true,true,true,true,true,true,true,true,true,true,true,true,true,true,true,false] (eY Tryz.f25)) Q [(4,.pointer (some ⟨gr,0,none⟩)),(5,.pointer (some ⟨go,0,none⟩)),(6,.pointer (some ⟨ab A,ao A+k*4,none⟩)),(9,.pointer (some ⟨gs,0,none⟩)),(10,.pointer (some ⟨gn,0,none⟩)),(11,.func (.func 77) #[] #[]),(12,.func (.func 79) #[] #[.pointer (some ⟨gs,0,none⟩),.pointer (some ⟨gn,0,none⟩),.pointer (some ⟨go,0,none⟩)]),(13,.int .i64 p1)] [am gs [.slice As s.length cs] 95,aj (.slice As s.length cs) s,am gp [.slice Ap fs.length cp] 24,am gm [.slice a.Af m.frames.length a.cf,.slice a.Ab m.blocks.length a.cb,.slice a.Ai m.inn.length a.ci,.slice a.Ao m.out.length a.co,.int .i64 m.status,.int .i64 m.trap] 29,am gr rz 29,am go [.slice A (k+1) c,.slice Ab m.blocks.length cb,.slice Ai m.inn.length ci,.slice Ao m.out.length co,.int .i64 m.status,.int .i64 m.trap] 29,am gc [.int .i64 o.c,.int .i64 o.a] 49,am gf [fx0,fx1,.int .i64 fr,fx3] 110,am gn [.int .i64 (s.length:Int)] 3,aj (.slice A (k+1) c) (li.map Prod.fst++ [(⟨f,p0,.slice Al l.length cl,.slice As s.length cs⟩:aT)]),aj (.slice Al l.length cl) l,cR li,aj (.slice Ab m.blocks.length cb) m.blocks,aj (.slice Ai m.inn.length ci) m.inn,aj (.slice Ao m.out.length co) m.out]:=by
 have hsl:=R.sl
 have h1:1≤s.length:=R.nd.one (by omega)
 have hlen:=R.isn hc
 have hv:s.getD (s.length - 1) default=aP s:=dQ.symm
 have hvi:aX (aP s).n:=by rw[dQ];exact R.si _ (cN (by omega))
 have e1:∀v:aS,(dl s++ [v]).length=s.length:=fun v=>by rw[←lE h1 v,List.length_set]
 have hbl:=gB R.bl
 refine ac<|aa<|rn 1 [4,5,6,9,10,11,13,480] rfl<|ag (jF rfl rfl rfl D2 (fun w hw=>ls gs gn go s.length m.blocks.length As Ab cs cb (.slice A (k+1) c) (.slice Ai m.inn.length ci) (.slice Ao m.out.length co) (.int .i64 m.status) (.int .i64 m.trap) s m.blocks 1 (aP s) rfl rfl ⟨by decide,by omega⟩ hv hlen w (hw.msub (.s fc (.s fc (.s fc (.s fc (.s fc .r)))))))) rfl rfl (fun g _=>?_)
 refine rn 5 [4,5,6,9,10,11,13,26] rfl<|ae<|ac<|bQ (.still 0 (.still 1 (.still 2 (.still 3 (.pick 4 (.still 5 (.pick 6 .done .stop)) .stop))))) [6] rfl (by kernel_rfl) (by kernel_rfl) ?_
 refine an rfl (ai fc a9 rfl rfl (by rfl)) rfl rfl ha ?_
 refine an rfl (ai fc ar rfl rfl (by rfl)) rfl rfl ha ?_
 refine an rfl (bx rfl rfl rfl (by omega)) rfl rfl ha ?_
 refine aV ha 1 [4,5,6,9,10,11,13,26,484,486,487] rfl<|aB rfl (hJ rfl rfl rfl lm (fun w hw=>il 1 (by decide) w)) rfl rfl (.inr fun _=>ha) (fun _ _=>?_) ay
 refine dh (t:=486) (v':= .int .i64 ((s.length - 1:Nat):Int)) rfl (by congr 1;omega) ?_
 refine an rfl (aO (k:=(s.length - 1)) az aE (SF.own (xs:=s) rfl fc) (by omega) rfl rfl rfl) rfl rfl ha ?_
 refine aB rfl (eW (α:=aS) (A:=As) (c:=cs) (cF 1) default (xs':=dl s++ [cF 1]) (lE h1 _).symm fc (by omega) (is _) aE rfl rfl rfl rfl rfl rfl rfl rfl) rfl rfl (.inl rfl) (fun _ _=>?_) ay
 refine cJ<|ac<|aa<|rn 1 [4,5,6,9,10,11,13,490] rfl<|ae<|b9 rfl (fun h0=>?_) (fun h0=>?_)
 ·have h0:¬(aP s).n=0:=h0
  simp only[if_neg h0]
  refine bQ (.still 0 (.still 1 (.still 2 (.still 3 (.pick 4 (.still 5 (.pick 6 .done .stop)) .stop))))) [6] rfl (by kernel_rfl) (by kernel_rfl) ?_
  refine an rfl (ai fc a9 rfl rfl (by rfl)) rfl rfl ha ?_
  refine an rfl (ai fc ar rfl rfl (by rfl)) rfl rfl ha ?_
  refine an rfl (bx rfl rfl rfl (by omega)) rfl rfl ha ?_
  refine aV ha 1 [4,5,6,9,13,491,493,494] rfl<|aB rfl (hJ rfl rfl rfl lm (fun w hw=>il 0 (by decide) w)) rfl rfl (.inr fun _=>ha) (fun _ _=>?_) ay
  refine dh (t:=493) (v':= .int .i64 ((s.length - 1:Nat):Int)) rfl (by congr 1;omega) ?_
  refine an rfl (aO (k:=(s.length - 1)) az aE (SF.own (xs:=dl s++ [cF 1]) (e1 _) fc) (by omega) rfl rfl rfl) rfl rfl ha ?_
  refine aB rfl (eW (α:=aS) (A:=As) (c:=cs) (cF 0) default (xs':=dl s++ [cF 0]) (pL (dl s) _ _ (fT s)).symm fc (by omega) (is _) aE rfl rfl rfl rfl rfl rfl (by rw[mt _ _ _ (fT s)];rfl) rfl) rfl rfl (.inl rfl) (fun _ _=>?_) ay
  refine pO fc ?_
  refine ck<|dY (K (dl s++ [cF 0]) As cs l m.blocks Ab cb m.inn Ai ci m.out Ao co m.status p1 ⟨R.pi.2.2,R.hms⟩ (by dsimp only[bP];rw[if_neg (by omega)];rw[if_neg (by omega)];rw[if_neg (by omega)];rw[if_neg (by omega)];rw[if_neg (by omega)];rw[if_neg (by omega)];rw[if_neg (by omega)];rw[if_neg (by omega)];rw[if_neg (by omega)];rw[if_neg (by omega)];rw[if_neg (by omega)];rw[if_neg (by omega)];rw[if_neg (by omega)];rw[if_neg (by omega)];dsimp only[eU];rw[if_neg (by omega)];rw[if_neg (by omega)];rw[if_neg (by omega)];rw[if_neg (by omega)];rw[if_neg (by omega)];rw[if_pos hc,if_neg h0])) ⟨rfl,rfl,rfl,rfl,rfl,trivial⟩ (fun w h=>by rw[e1];exact h.msub ms)
 have h0:(aP s).n=0:=h0
 simp only[if_pos h0]
 refine ax<|dY (K (dl s++ [cF 1]) As cs l m.blocks Ab cb m.inn Ai ci m.out Ao co m.status p1 ⟨R.pi.2.2,R.hms⟩ (by dsimp only[bP];rw[if_neg (by omega)];rw[if_neg (by omega)];rw[if_neg (by omega)];rw[if_neg (by omega)];rw[if_neg (by omega)];rw[if_neg (by omega)];rw[if_neg (by omega)];rw[if_neg (by omega)];rw[if_neg (by omega)];rw[if_neg (by omega)];rw[if_neg (by omega)];rw[if_neg (by omega)];rw[if_neg (by omega)];rw[if_neg (by omega)];dsimp only[eU];rw[if_neg (by omega)];rw[if_neg (by omega)];rw[if_neg (by omega)];rw[if_neg (by omega)];rw[if_neg (by omega)];rw[if_pos hc,if_pos h0])) ⟨rfl,rfl,rfl,rfl,rfl,trivial⟩ (fun w h=>by rw[e1];exact h.msub ms)
set_option maxRecDepth 100000 in
set_option maxHeartbeats 1000000 in
theorem Ec (R:jm B w0 fs m a li k Ap cp f p0 p1 l s o fr) (hc:o.c=14) (hrz:rz.length=6) (K:∀(s':List aS) (As':Option Addr) (cs':Nat) (l':List aS) (b':List (List Int)) (Ab':Option Addr) (cb':Nat) (i':List Int) (Ai':Option Addr) (ci':Nat) (o':List Int) (Ao':Option Addr) (co':Nat) (st' nx:Int),aX nx∧aX st'→bP fs m (li.map Prod.snd) ⟨f,p1,l,s⟩ o= .inr ⟨li.map Prod.snd++ [⟨f,nx,l',s'⟩],b',i',o',st',m.trap⟩→XW ⟨551,[]⟩ B w0 Q .normal [(4,.pointer (some ⟨gr,0,none⟩)),(5,.pointer (some ⟨go,0,none⟩)),(6,.pointer (some ⟨ab A,ao A+k*4,none⟩)),(9,.pointer (some ⟨gs,0,none⟩)),(13,.int .i64 nx)] (am gs [.slice As' s'.length cs'] 95::aj (.slice As' s'.length cs') s'::am gr rz 29::am go [.slice A (k+1) c,.slice Ab' b'.length cb',.slice Ai' i'.length ci',.slice Ao' o'.length co',.int .i64 st',.int .i64 m.trap] 29::aj (.slice A (k+1) c) (li.map Prod.fst++ [(⟨f,p0,.slice Al l'.length cl,.slice As s.length cs⟩:aT)])::aj (.slice Al l'.length cl) l'::cR li::aj (.slice Ab' b'.length cb') b'::aj (.slice Ai' i'.length ci') i'::aj (.slice Ao' o'.length co') o':: [])) (KT:∀(y:aD) (g:MA),(∃why,bP fs m (li.map Prod.snd) ⟨f,p1,l,s⟩ o= .inl why∧y= {m with status:=3,trap:=why})→XW ⟨551,[]⟩ B w0 Q .ret [(4,.pointer (some ⟨gr,0,none⟩))] (am gr [.slice g.Af y.frames.length g.cf,.slice g.Ab y.blocks.length g.cb,.slice g.Ai y.inn.length g.ci,.slice g.Ao y.out.length g.co,.int .i64 y.status,.int .i64 y.trap] 29::aj (.slice g.Af y.frames.length g.cf) y.frames::aj (.slice g.Ab y.blocks.length g.cb) y.blocks::aj (.slice g.Ai y.inn.length g.ci) y.inn::aj (.slice g.Ao y.out.length g.co) y.out:: [])):CW Tryz.prog ⟨551,[]⟩ B w0 (iF [true,true,true,true,true,true,true,true,true,true,true,false,true,false,true,true,true,true,true,true,true,true,true,true,true,true,true,true,true,true,true,true,true,true,true,true,true,true,true,true,true,false] (eY Tryz.f25)) Q [(3,.pointer (some ⟨gm,0,none⟩)),(4,.pointer (some ⟨gr,0,none⟩)),(5,.pointer (some ⟨go,0,none⟩)),(6,.pointer (some ⟨ab A,ao A+k*4,none⟩)),(9,.pointer (some ⟨gs,0,none⟩)),(10,.pointer (some ⟨gn,0,none⟩)),(13,.int .i64 p1)] [am gs [.slice As s.length cs] 95,aj (.slice As s.length cs) s,am gp [.slice Ap fs.length cp] 24,am gm [.slice a.Af m.frames.length a.cf,.slice a.Ab m.blocks.length a.cb,.slice a.Ai m.inn.length a.ci,.slice a.Ao m.out.length a.co,.int .i64 m.status,.int .i64 m.trap] 29,am gr rz 29,am go [.slice A (k+1) c,.slice Ab m.blocks.length cb,.slice Ai m.inn.length ci,.slice Ao m.out.length co,.int .i64 m.status,.int .i64 m.trap] 29,am gc [.int .i64 o.c,.int .i64 o.a] 49,am gf [fx0,fx1,.int .i64 fr,fx3] 110,am gn [.int .i64 (s.length:Int)] 3,aj (.slice A (k+1) c) (li.map Prod.fst++ [(⟨f,p0,.slice Al l.length cl,.slice As s.length cs⟩:aT)]),aj (.slice Al l.length cl) l,cR li,aj (.slice Ab m.blocks.length cb) m.blocks,aj (.slice Ai m.inn.length ci) m.inn,aj (.slice Ao m.out.length co) m.out]:=by
 have hsl:=R.sl
 have h1:1≤s.length:=R.nd.one (by omega)
 obtain⟨z0,z1,z2,z3,z4,z5,rfl⟩:∃z0 z1 z2 z3 z4 z5,rz= [z0,z1,z2,z3,z4,z5]:=kU rz hrz
 have hv:s.getD (s.length - 1) default=aP s:=dQ.symm
 have hvi:aX (aP s).n:=by rw[dQ];exact R.si _ (cN (by omega))
 have e1:∀v:aS,(dl s++ [v]).length=s.length:=fun v=>by rw[←lE h1 v,List.length_set]
 obtain⟨hbl,hb40⟩:=gB R.bl
 refine ac<|aa<|af (ai fc a9 rfl rfl (by rfl)) rfl rfl ?_
 refine af (ai fc ar rfl rfl (by rfl)) rfl rfl ?_
 refine af (bx rfl rfl rfl (by omega)) rfl rfl<|bA (t:=332) (v':= .int .i64 ((s.length - 1:Nat):Int)) rfl (by congr 1;omega) ?_
 refine af (aO (k:=(s.length - 1)) az aE (SF.own (xs:=s) rfl fc) (by omega) rfl rfl rfl) rfl rfl ?_
 refine rn 1 [3,4,5,6,9,10,13,334] rfl<|af (a8 (fun w hw=>(SF.val (SF.own rfl fc) (show s.length - 1<s.length by omega) default) w hw 1 _ rfl) rfl rfl ar) rfl rfl ?_
 refine rn 1 [3,4,5,6,9,10,13,18] rfl<|ae<|ac<|ac<|aa<|rn 3 [3,4,5,6,9,10,13,18,338] rfl ?_
 rw[hv]
 have hz39:(aP s).n≤2147483647:=by rw[dQ];exact R.sI _ (cN (by omega))
 refine gU 13 rfl [(3,_),(4,_),(5,_),(6,_),(9,_),(10,_),(13,_),(18,_)] [(351,.bool (decide (fD m.blocks (aP s).n≠0)))] ⟨rfl,rfl,rfl,rfl,rfl,rfl,rfl,rfl,trivial⟩ (fun K=>?_) ?_
 ·refine bw (t:=338) rfl (fun q1=>?_) (fun q1=>?_)
  ·have q1:=of_decide_eq_true q1
   refine rn 13 [3,4,5,6,9,10,13,18,351] rfl<|bA (t:=351) (v':= .bool (decide (fD m.blocks (aP s).n≠0))) rfl (congrArg Value.bool (decide_eq_true (by unfold fD;rw[if_pos q1];decide)).symm) ?_
   exact dL K ⟨rfl,rfl,rfl,rfl,rfl,rfl,rfl,rfl,rfl,trivial⟩
  have q1:=of_decide_eq_false q1
  refine rn 1 [3,4,5,6,9,10,13,18,338,339] rfl<|af (ai fc ew rfl rfl (by rfl)) rfl rfl ?_
  refine af (aN cy rfl rfl) rfl rfl<|rn 3 [3,4,5,6,9,10,13,18,344] rfl<|bw (t:=344) rfl (fun q2=>?_) (fun q2=>?_)
  ·have q2:m.blocks.length=8:=by have:=of_decide_eq_true q2;omega
   refine rn 7 [3,4,5,6,9,10,13,18,351] rfl<|bA (t:=351) (v':= .bool (decide (fD m.blocks (aP s).n≠0))) rfl (congrArg Value.bool (decide_eq_true (by unfold fD;rw[if_neg q1,if_pos (.inl q2)];decide)).symm) ?_
   exact dL K ⟨rfl,rfl,rfl,rfl,rfl,rfl,rfl,rfl,rfl,trivial⟩
  have q2:¬m.blocks.length=8:=by have:=of_decide_eq_false q2;omega
  refine rn 1 [3,4,5,6,9,10,13,18,344,345] rfl<|af (ai fc ew rfl rfl (by rfl)) rfl rfl ?_
  refine ag (bK rfl rfl rfl Tryz.call81 (fun w hw=>(qs (.slice Ab m.blocks.length cb) m.blocks w (SF.at_ (SF.own rfl fc) hw) hbl).mono fun e w' h=>by obtain⟨h1,rfl⟩:=h;exact⟨h1,Below.refl _ _⟩)) rfl rfl (fun _ _=>?_)
  refine rn 1 [3,4,5,6,9,10,13,18,344,347,348] rfl<|af (bH rfl rfl rfl (by omega)) rfl rfl<|rn 2 [3,4,5,6,9,10,13,18,351] rfl<|bA (t:=351) (v':= .bool (decide (fD m.blocks (aP s).n≠0))) rfl (congrArg Value.bool (decide_eq_decide.2 (by unfold fD;rw[if_neg q1];split <;> omega))) ?_
  exact dL K ⟨rfl,rfl,rfl,rfl,rfl,rfl,rfl,rfl,rfl,trivial⟩
 refine ae<|aw rfl (fun q3=>?_) (fun q3=>?_)
 ·have q3:fD m.blocks (aP s).n≠0:=q3
  refine ac<|aa<|af (aQ (vs:= [_,_,_,_,_,_]) fc bd aF rfl rfl (by rfl) rfl) rfl rfl ?_
  refine ag (cO rfl rfl rfl mN (fun w hw=>fP a m 3 (by decide) w (R.hm.ro hw) R.fit)) rfl rfl (fun g _=>?_)
  refine ag (aH _ fc aF rfl rfl rfl rfl rfl (by rfl) rfl (by rfl)) rfl rfl (fun _ _=>?_)
  refine ae<|au (ak ?_)
  refine dY (KT {m with status:=3,trap:=3} g ⟨3,by dsimp only[bP];rw[if_neg (by omega)];rw[if_neg (by omega)];rw[if_neg (by omega)];rw[if_neg (by omega)];rw[if_neg (by omega)];rw[if_neg (by omega)];rw[if_neg (by omega)];rw[if_neg (by omega)];rw[if_neg (by omega)];rw[if_neg (by omega)];rw[if_neg (by omega)];rw[if_neg (by omega)];rw[if_neg (by omega)];rw[if_neg (by omega)];dsimp only[eU];rw[if_pos hc,if_pos q3],rfl⟩) ⟨rfl,trivial⟩ me
 have q3:fD m.blocks (aP s).n=0:=Classical.byContradiction q3
 obtain⟨g0,g1⟩:=wO q3
 obtain⟨z,hz⟩:∃z:Nat,(aP s).n=z:=⟨(aP s).n.toNat,by omega⟩
 have hzt:(aP s).n.toNat=z:=by omega
 refine ax (ap ?_)
 refine ac<|bQ (.still 0 (.still 1 (.still 2 (.pick 3 (.pick 4 (.pick 5 (.calm 6 (.pick 7 .done .stop)) .stop) .stop) .stop)))) [5,6,7] rfl (by kernel_rfl) (by kernel_rfl) ?_
 refine aV ha 1 [4,5,6,9,10,13,18,354] rfl<|an rfl (ai fc ew rfl rfl (by rfl)) rfl rfl ha ?_
 refine aV ha 1 [4,5,6,9,10,13,355,356] rfl<|dh (t:=356) (v':= .int .i64 (z:Int)) rfl (by rw[hz]) ?_
 refine aB rfl (kD (α:=Int) (m:=z) 0 ah j6 rfl (fun w=>⟨⟨rfl,by simp[aX]⟩,fun _ h=>h⟩) rfl (by omega) rfl rfl rfl) rfl rfl (.inr fun _=>ha) (fun gz _=>?_) ay
 refine aB rfl (bh (cs:= [_]) cy bV Tryz.zeroValue27 rfl rfl rfl rfl rfl) rfl rfl (.inr fun _=>ha) (fun g1 _=>?_) ay
 refine aB rfl (dm (α:=List Int) (bytes:=24) (List.replicate z 0) [aj (.slice (some ⟨gz,0,none⟩) z z) (List.replicate z (0:Int))] rfl cy (bM kS) rfl (Ek (R:=aj (.slice Ab m.blocks.length cb) m.blocks) fc fc fc) Dp (by omega) (by omega) rfl rfl rfl) rfl rfl (.inl rfl) (fun⟨A4,c4⟩ _=>?_) ay
 try dsimp only
 refine dZ 1 [4,5,6,9,10,13,359,360] rfl<|aB rfl (aH _ fc iJ rfl rfl rfl rfl rfl (by rfl) rfl (by rfl)) rfl rfl (.inl rfl) (fun _ _=>?_) ay
 refine cJ<|aa<|af (ai fc a9 rfl rfl (by rfl)) rfl rfl ?_
 refine af (ai fc ar rfl rfl (by rfl)) rfl rfl ?_
 refine af (bx rfl rfl rfl (by omega)) rfl rfl<|rn 1 [4,5,6,9,13,361,363,364] rfl<|af (ai fc ew rfl rfl (by rfl)) rfl rfl ?_
 refine af (aN cy rfl rfl) rfl rfl<|af (cT (cs:= [_,_]) kY bu rfl rfl (by rfl)) rfl rfl ?_
 refine bA (t:=363) (v':= .int .i64 ((s.length - 1:Nat):Int)) rfl (by congr 1;omega) ?_
 refine af (aO (k:=(s.length - 1)) az aE (SF.own (xs:=s) rfl fc) (by omega) rfl rfl rfl) rfl rfl ?_
 refine ag (eW (α:=aS) (A:=As) (c:=cs) ⟨true,((m.blocks++ [List.replicate z 0]).length:Int)⟩ default (xs':=dl s++ [⟨true,((m.blocks++ [List.replicate z 0]).length:Int)⟩]) (lE h1 _).symm fc (by omega) (show aX ((m.blocks++ [List.replicate z 0]).length:Int) by rw[List.length_append];unfold aX;simp only[List.length_singleton];omega) aE rfl rfl rfl rfl rfl rfl rfl rfl) rfl rfl (fun _ _=>?_)
 refine bE<|dY (K (dl s++ [⟨true,((m.blocks++ [List.replicate z 0]).length:Int)⟩]) As cs l (m.blocks++ [List.replicate z 0]) A4 c4 m.inn Ai ci m.out Ao co m.status p1 ⟨R.pi.2.2,R.hms⟩ (by dsimp only[bP];rw[if_neg (by omega)];rw[if_neg (by omega)];rw[if_neg (by omega)];rw[if_neg (by omega)];rw[if_neg (by omega)];rw[if_neg (by omega)];rw[if_neg (by omega)];rw[if_neg (by omega)];rw[if_neg (by omega)];rw[if_neg (by omega)];rw[if_neg (by omega)];rw[if_neg (by omega)];rw[if_neg (by omega)];rw[if_neg (by omega)];dsimp only[eU];rw[if_pos hc,if_neg (fun h=>h q3),hzt,List.length_append];rfl)) ⟨rfl,rfl,rfl,rfl,rfl,trivial⟩ (fun w h=>by rw[e1];exact h.msub ms)
end
end
section
theorem zn {s L:List aS} {a i:Nat} (h1:a+i<s.length) (h2:i<L.length):(s.drop a).take (i+1)++L.drop (i+1)=((s.drop a).take i++L.drop i).set i (s.getD (a+i) default):=by
 have hl:((s.drop a).take i).length=i:=by rw[List.length_take,List.length_drop];omega
 have e1:(s.drop a).take (i+1)=(s.drop a).take i++ [s.getD (a+i) default]:=by
  rw[e9 (s.drop a) i default (by rw[List.length_drop];omega),lz]
 rw[e1,List.set_append_right _ _ (by omega),hl,Nat.sub_self]
 cases h:L.drop i with
 | nil=>have:=congrArg List.length h;rw[List.length_drop] at this;simp at this;omega
 | cons x r=>
  have e2:L.drop (i+1)=r:=by rw[←List.drop_drop,h];rfl
  rw[e2,List.append_assoc]
  rfl
theorem pR {α:Type} [Ow α] {B:Nat} {w0:World} {H:List bj} {A:Option Addr} {c:Nat} {s:List α} {w:World} (h1:1≤s.length) (h:Cw B w0 (aj (.slice A s.length c) s::H) w):Cw B w0 (aj (.slice (fB A 1 c (aR.k α)) (s.drop 1).length (c - 1)) (s.drop 1)::H) w:=by
 rw[List.length_drop]
 exact v5 h1 h
section
variable {B:Nat} {w0:World} {Q:Exit→Act→World→Prop} (gp gm gr go gc gf gs gn k:Nat) (li:List (aT×aW)) (A Al As Ap Ab Ai Ao:Option Addr) (c cl cs cp cb ci co:Nat) (a:MA) (m:aD) (f p0 p1 fr:Int) (l s:List aS) (o:cn) (fs:List aC) (rz:List Value) (fx0 fx1 fx3:Value)
set_option maxRecDepth 100000 in
set_option maxHeartbeats 1000000 in
theorem D5 (R:jm B w0 fs m a li k Ap cp f p0 p1 l s o fr) (hrz:rz.length=6) (K:∀(As':Option Addr) (cs':Nat) (Ai':Option Addr) (ci':Nat),m.inn≠[]→XW ⟨551,[]⟩ B w0 Q .normal [(4,.pointer (some ⟨gr,0,none⟩)),(5,.pointer (some ⟨go,0,none⟩)),(6,.pointer (some ⟨ab A,ao A+k*4,none⟩)),(9,.pointer (some ⟨gs,0,none⟩)),(13,.int .i64 p1)] (am gs [.slice As' (s++ [cF (m.inn.getD 0 0)]).length cs'] 95::aj (.slice As' (s++ [cF (m.inn.getD 0 0)]).length cs') (s++ [cF (m.inn.getD 0 0)])::am gr rz 29::am go [.slice A (k+1) c,.slice Ab m.blocks.length cb,.slice Ai' (m.inn.drop 1).length ci',.slice Ao m.out.length co,.int .i64 0,.int .i64 m.trap] 29::aj (.slice A (k+1) c) (li.map Prod.fst++ [(⟨f,p0,.slice Al l.length cl,.slice As s.length cs⟩:aT)])::aj (.slice Al l.length cl) l::cR li::aj (.slice Ab m.blocks.length cb) m.blocks::aj (.slice Ai' (m.inn.drop 1).length ci') (m.inn.drop 1)::aj (.slice Ao m.out.length co) m.out:: [])) (KR:∀g:MA,m.inn= []→XW ⟨551,[]⟩ B w0 Q .ret [(4,.pointer (some ⟨gr,0,none⟩))] (am gr [.slice g.Af m.frames.length g.cf,.slice g.Ab m.blocks.length g.cb,.slice g.Ai m.inn.length g.ci,.slice g.Ao m.out.length g.co,.int .i64 1,.int .i64 m.trap] 29::aj (.slice g.Af m.frames.length g.cf) m.frames::aj (.slice g.Ab m.blocks.length g.cb) m.blocks::aj (.slice g.Ai m.inn.length g.ci) m.inn::aj (.slice g.Ao m.out.length g.co) m.out:: [])):CW Tryz.prog ⟨551,[]⟩ B w0 (iF [true,true,true,true,true,true,true,true,true,true,true,false,true,false,true,true,true,true,true,true,true,true,true,true,true,true,true,true,true,true,true,true,true,true,true,true,true,true,true,true,true,true,true,true,true,true,true,true,true,true,true,true,true,true,true,false] (eY Tryz.f25)) Q [(4,.pointer (some ⟨gr,0,none⟩)),(5,.pointer (some ⟨go,0,none⟩)),(6,.pointer (some ⟨ab A,ao A+k*4,none⟩)),(9,.pointer (some ⟨gs,0,none⟩)),(11,.func (.func 77) #[] #[]),(13,.int .i64 p1)] [am gs [.slice As s.length cs] 95,aj (.slice As s.length cs) s,am gp [.slice Ap fs.length cp] 24,am gm [.slice a.Af m.frames.length a.cf,.slice a.Ab m.blocks.length a.cb,.slice a.Ai m.inn.length a.ci,.slice a.Ao m.out.length a.co,.int .i64 m.status,.int .i64 m.trap] 29,am gr rz 29,am go [.slice A (k+1) c,.slice Ab m.blocks.length cb,.slice Ai m.inn.length ci,.slice Ao m.out.length co,.int .i64 m.status,.int .i64 m.trap] 29,am gc [.int .i64 o.c,.int .i64 o.a] 49,am gf [fx0,fx1,.int .i64 fr,fx3] 110,am gn [.int .i64 (s.length:Int)] 3,aj (.slice A (k+1) c) (li.map Prod.fst++ [(⟨f,p0,.slice Al l.length cl,.slice As s.length cs⟩:aT)]),aj (.slice Al l.length cl) l,cR li,aj (.slice Ab m.blocks.length cb) m.blocks,aj (.slice Ai m.inn.length ci) m.inn,aj (.slice Ao m.out.length co) m.out]:=by
 have hsl:=R.sl
 have hib:=R.ib
 obtain⟨z0,z1,z2,z3,z4,z5,rfl⟩:∃z0 z1 z2 z3 z4 z5,rz= [z0,z1,z2,z3,z4,z5]:=kU rz hrz
 refine dD (fun w h=>eK h (xs:=m.inn) (A:=Ai) (m:=m.inn.length) (c:=ci) fc) fun hcap=>?_
 refine ac<|aa<|rn 1 [4,5,6,9,11,13,522] rfl<|ag (aH _ fc aI rfl rfl rfl rfl rfl (by rfl) rfl (by rfl)) rfl rfl (fun _ _=>?_)
 refine ae<|ac<|ac<|aa<|rn 1 [4,5,6,9,11,13,523] rfl<|af (ai fc a5 rfl rfl (by rfl)) rfl rfl ?_
 refine af (aN ah rfl rfl) rfl rfl<|rn 1 [4,5,6,9,11,13,526] rfl<|ae<|aw rfl (fun h0=>?_) (fun h0=>?_)
 ·have h0:m.inn= []:=List.eq_nil_of_length_eq_zero (by have h0:(m.inn.length:Int)=0:=h0;omega)
  refine ac<|aa<|af (aQ (vs:= [_,_,_,_,_,_]) fc bd aF rfl rfl (by rfl) rfl) rfl rfl ?_
  refine ag (aH _ fc aF rfl rfl rfl rfl rfl (by rfl) rfl (by rfl)) rfl rfl (fun _ _=>?_)
  refine ae<|au (ak ?_)
  refine dY (KR ⟨A,c,Ab,cb,Ai,ci,Ao,co⟩ h0) ⟨rfl,trivial⟩ (fun w h=>by dsimp only;rw[R.mf,R.fs];exact(jO (li:=li) (h:=⟨f,p0,.slice Al l.length cl,.slice As s.length cs⟩) (x:=⟨f,p0,l,s⟩) R.hok ⟨rfl,rfl⟩ (h.msub (T:=aj (.slice A (k+1) c) (li.map Prod.fst++ [(⟨f,p0,.slice Al l.length cl,.slice As s.length cs⟩:aT)])::aj (.slice Al l.length cl) l::aj (.slice As s.length cs) s::cR li::am gr [.slice A (k+1) c,.slice Ab m.blocks.length cb,.slice Ai m.inn.length ci,.slice Ao m.out.length co,.int .i64 1,.int .i64 m.trap] 29::aj (.slice Ab m.blocks.length cb) m.blocks::aj (.slice Ai m.inn.length ci) m.inn::aj (.slice Ao m.out.length co) m.out:: []) ms)).msub ms)
 have h0:¬m.inn.length=0:=by have h0:¬(m.inn.length:Int)=0:=h0;omega
 have hz:aX (m.inn.getD 0 0):=R.ii _ (cN (by omega))
 have hd1:(m.inn.drop 1).length=m.inn.length - 1:=List.length_drop
 refine ax (ap ?_)
 refine ac<|aa<|rn 1 [4,5,6,9,11,13,528] rfl<|ag (aH _ fc aI rfl rfl rfl rfl rfl (by rfl) rfl (by rfl)) rfl rfl (fun _ _=>?_)
 refine ae<|ac<|bQ (.still 0 (.still 1 (.still 2 (.still 3 (.still 4 (.still 5 (.pick 6 (.pick 7 (.pick 8 (.pick 9 .done .stop) .stop) .stop) .stop))))))) [8,9] rfl (by kernel_rfl) (by kernel_rfl) ?_
 refine an rfl (ai fc a9 rfl rfl (by rfl)) rfl rfl ha ?_
 refine aV ha 2 [4,5,6,9,13,529,530,531] rfl<|an rfl (ai fc a5 rfl rfl (by rfl)) rfl rfl ha ?_
 refine an rfl (aO (k:=0) ah aI (SF.own (xs:=m.inn) rfl fc) (by omega) rfl rfl rfl) rfl rfl ha ?_
 refine an rfl (a8 (SF.int (SF.own (xs:=m.inn) rfl fc) (by omega)) rfl rfl ar) rfl rfl ha ?_
 refine aB rfl (hJ rfl rfl rfl lm (fun w hw=>il (m.inn.getD 0 0) hz w)) rfl rfl (.inr fun _=>ha) (fun _ _=>?_) ay
 refine aB rfl (bh (cs:= [_,_]) az aE bu rfl rfl rfl rfl rfl) rfl rfl (.inr fun _=>ha) (fun g1 _=>?_) ay
 refine aB rfl (dm (α:=aS) (bytes:=16) (cF (m.inn.getD 0 0)) [] rfl az (bM dk) rfl (eA (R:=aj (.slice As s.length cs) s) fc fc) (dI (is _)) (by omega) (by omega) rfl rfl rfl) rfl rfl (.inl rfl) (fun⟨A3,c3⟩ _=>?_) ay
 try dsimp only
 refine aB rfl (aH _ fc dd rfl rfl rfl rfl rfl (by rfl) rfl (by rfl)) rfl rfl (.inl rfl) (fun _ _=>?_) ay
 refine cJ<|aa<|rn 1 [4,5,6,9,13,538] rfl<|af (ai fc a5 rfl rfl (by rfl)) rfl rfl ?_
 refine af (mo (k:=(m.inn.drop 1).length) ah aI ⟨by omega,by omega⟩ hd1.symm rfl rfl rfl rfl) rfl rfl ?_
 refine rn 1 [4,5,6,9,13,540,541] rfl<|ag (aH _ fc bV rfl rfl rfl rfl rfl (by rfl) rfl (by rfl)) rfl rfl (fun _ _=>?_)
 refine bE<|dY (K A3 c3 (fB Ai 1 ci 1) (ci - 1) (fun e=>h0 (by rw[e];rfl))) ⟨rfl,rfl,rfl,rfl,rfl,trivial⟩ (fun w h=>(pR (s:=m.inn) (A:=Ai) (c:=ci) (by omega) (h.msub (.s fc .r))).msub ms)
set_option maxRecDepth 100000 in
set_option maxHeartbeats 2000000 in
theorem Ee (R:jm B w0 fs m a li k Ap cp f p0 p1 l s o fr) (hc:o.c=12) (hrz:rz.length=6) (KT:∀(y:aD) (g:MA),(∃why,bP fs m (li.map Prod.snd) ⟨f,p1,l,s⟩ o= .inl why∧y= {m with status:=3,trap:=why})→XW ⟨551,[]⟩ B w0 Q .ret [(4,.pointer (some ⟨gr,0,none⟩))] (am gr [.slice g.Af y.frames.length g.cf,.slice g.Ab y.blocks.length g.cb,.slice g.Ai y.inn.length g.ci,.slice g.Ao y.out.length g.co,.int .i64 y.status,.int .i64 y.trap] 29::aj (.slice g.Af y.frames.length g.cf) y.frames::aj (.slice g.Ab y.blocks.length g.cb) y.blocks::aj (.slice g.Ai y.inn.length g.ci) y.inn::aj (.slice g.Ao y.out.length g.co) y.out:: [])) (KR:∀(y:aD) (g:MA),bP fs m (li.map Prod.snd) ⟨f,p1,l,s⟩ o= .inr y→XW ⟨551,[]⟩ B w0 Q .ret [(4,.pointer (some ⟨gr,0,none⟩))] (am gr [.slice g.Af y.frames.length g.cf,.slice g.Ab y.blocks.length g.cb,.slice g.Ai y.inn.length g.ci,.slice g.Ao y.out.length g.co,.int .i64 y.status,.int .i64 y.trap] 29::aj (.slice g.Af y.frames.length g.cf) y.frames::aj (.slice g.Ab y.blocks.length g.cb) y.blocks::aj (.slice g.Ai y.inn.length g.ci) y.inn::aj (.slice g.Ao y.out.length g.co) y.out:: [])):CW Tryz.prog ⟨551,[]⟩ B w0 (iF [true,true,true,true,true,true,true,true,true,true,true,false,true,false,true,true,true,true,true,true,true,true,true,true,true,true,true,true,true,true,true,true,true,true,true,true,true,false] (eY Tryz.f25)) Q [(2,.pointer (some ⟨gp,0,none⟩)),(3,.pointer (some ⟨gm,0,none⟩)),(4,.pointer (some ⟨gr,0,none⟩)),(5,.pointer (some ⟨go,0,none⟩)),(6,.pointer (some ⟨ab A,ao A+k*4,none⟩)),(7,.pointer (some ⟨gc,0,none⟩)),(9,.pointer (some ⟨gs,0,none⟩)),(10,.pointer (some ⟨gn,0,none⟩)),(13,.int .i64 p1)] [am gs [.slice As s.length cs] 95,aj (.slice As s.length cs) s,am gp [.slice Ap fs.length cp] 24,am gm [.slice a.Af m.frames.length a.cf,.slice a.Ab m.blocks.length a.cb,.slice a.Ai m.inn.length a.ci,.slice a.Ao m.out.length a.co,.int .i64 m.status,.int .i64 m.trap] 29,am gr rz 29,am go [.slice A (k+1) c,.slice Ab m.blocks.length cb,.slice Ai m.inn.length ci,.slice Ao m.out.length co,.int .i64 m.status,.int .i64 m.trap] 29,am gc [.int .i64 o.c,.int .i64 o.a] 49,am gf [fx0,fx1,.int .i64 fr,fx3] 110,am gn [.int .i64 (s.length:Int)] 3,aj (.slice A (k+1) c) (li.map Prod.fst++ [(⟨f,p0,.slice Al l.length cl,.slice As s.length cs⟩:aT)]),aj (.slice Al l.length cl) l,cR li,aj (.slice Ab m.blocks.length cb) m.blocks,aj (.slice Ai m.inn.length ci) m.inn,aj (.slice Ao m.out.length co) m.out]:=by
 have hsl:=R.sl
 have hk6:=R.k6
 obtain⟨hcf,⟨hc0,hc1⟩,hc2,hc3⟩:=R.nd.call hc
 obtain⟨z0,z1,z2,z3,z4,z5,rfl⟩:∃z0 z1 z2 z3 z4 z5,rz= [z0,z1,z2,z3,z4,z5]:=kU rz hrz
 have hlm:(li.map Prod.fst).length=k:=by rw[List.length_map];exact R.hk
 have hlm2:(li.map Prod.snd).length=k:=by rw[List.length_map];exact R.hk
 have hmf:=R.mf
 refine dD (fun w h=>eK h (xs:=s) (.s .a)) fun hcap=>?_
 refine ac<|ac<|aa<|rn 1 [2,3,4,5,6,7,9,10,13,232] rfl<|af (ai fc cd rfl rfl (by rfl)) rfl rfl ?_
 refine af (aN a6 rfl rfl) rfl rfl<|rn 1 [2,3,4,5,6,7,9,10,13,235] rfl<|ae<|aw rfl (fun h0=>?_) (fun h0=>?_)
 ·have h0:k=5:=by have h0:(m.frames.length:Int)=6:=h0;omega
  refine ac<|aa<|af (aQ (vs:= [_,_,_,_,_,_]) fc bd aF rfl rfl (by rfl) rfl) rfl rfl ?_
  refine ag (cO rfl rfl rfl mN (fun w hw=>fP a m 4 (by decide) w (R.hm.ro hw) R.fit)) rfl rfl (fun g _=>?_)
  refine ag (aH _ fc aF rfl rfl rfl rfl rfl (by rfl) rfl (by rfl)) rfl rfl (fun _ _=>?_)
  refine ae<|au (ak ?_)
  refine dY (KT {m with status:=3,trap:=4} g ⟨4,by dsimp only[bP];rw[if_neg (by omega),if_neg (by omega),if_neg (by omega),if_neg (by omega),if_neg (by omega),if_neg (by omega),if_neg (by omega),if_neg (by omega),if_neg (by omega),if_neg (by omega),if_neg (by omega),if_pos hc,if_pos (by omega)],rfl⟩) ⟨rfl,trivial⟩ me
 have h0:¬k=5:=by have h0:¬(m.frames.length:Int)=6:=h0;omega
 obtain⟨q,hq⟩:∃q:Nat,o.a.toNat=q:=⟨_,rfl⟩
 rw[hq] at hc0 hc1 hc2 hc3
 have hc2:(av fs q).params≤s.length:=hc2
 have hqf:q<fs.length:=by omega
 obtain⟨A1,c1,A2,c2,hl1,hl2,hi,hcell⟩:=R.hp.fn hqf
 have hF:(cV (av fs q).locals).length=(av fs q).locals.length:=ix _
 obtain⟨P,hP⟩:∃P:Nat,(av fs q).params=P:=⟨(av fs q).params.toNat,by omega⟩
 have bp:=bO R.hp
 refine ax (ap ?_)
 refine ac<|aa<|rn 1 [4,5,6,7,9,10,13,238] rfl<|af (ai fc cQ rfl rfl (by rfl)) rfl rfl ?_
 refine rn 1 [4,5,6,7,9,10,13,239,240] rfl<|af (ai fc ar rfl rfl (by rfl)) rfl rfl ?_
 refine bA (t:=241) (v':= .int .i64 (q:Int)) rfl (by congr 1;omega) ?_
 refine af (aO (k:=q) bI bq (.ro R.hp) (by omega) rfl rfl rfl) rfl rfl<|af (cr (hcell _) rfl rfl d8 bq) rfl rfl<|ag (aZ ey rfl rfl) rfl rfl (fun g1 _=>?_)
 refine ag (aH _ fc bq rfl rfl rfl rfl rfl (by rfl) rfl (by rfl)) rfl rfl (fun _ _=>?_)
 refine ae<|ac<|aa<|af (aQ (vs:= [_,_,_,_]) fc d8 bq rfl rfl (by rfl) rfl) rfl rfl ?_
 refine ag (eL rfl rfl rfl Tryz.call74 (fun w hw=>wA (av fs q).params (av fs q).result A1 A2 c1 c2 _ (av fs q).locals w (hw.ro hl1) (by omega))) rfl rfl (fun⟨A3,c3⟩ _=>?_)
 try dsimp only
 refine rn 1 [4,5,6,7,9,10,13,14,15] rfl<|ae<|ac<|ac<|aa<|rn 1 [4,5,6,7,9,10,13,14,15,16] rfl<|ae<|aL (b8 (fun g:Nat=>g≤P) (fun g=>P - g) (fun g=> [(4,.pointer (some ⟨gr,0,none⟩)),(5,.pointer (some ⟨go,0,none⟩)),(6,.pointer (some ⟨ab A,ao A+k*4,none⟩)),(7,.pointer (some ⟨gc,0,none⟩)),(9,.pointer (some ⟨gs,0,none⟩)),(10,.pointer (some ⟨gn,0,none⟩)),(13,.int .i64 p1),(14,.pointer (some ⟨g1,0,none⟩)),(15,.slice A3 (cV (av fs q).locals).length c3),(16,.int .i64 (g:Int))]) (fun g=> [aj (.slice A3 (cV (av fs q).locals).length c3) (((s.drop (s.length - P)).take g++(cV (av fs q).locals).drop g)),am g1 [.int .i64 (av fs q).params,.slice A1 (av fs q).locals.length c1,.int .i64 (av fs q).result,.slice A2 (av fs q).code.length c2] 110,am gs [.slice As s.length cs] 95,aj (.slice As s.length cs) s,am gp [.slice Ap fs.length cp] 24,am gm [.slice a.Af m.frames.length a.cf,.slice a.Ab m.blocks.length a.cb,.slice a.Ai m.inn.length a.ci,.slice a.Ao m.out.length a.co,.int .i64 m.status,.int .i64 m.trap] 29,am gr [z0,z1,z2,z3,z4,z5] 29,am go [.slice A (k+1) c,.slice Ab m.blocks.length cb,.slice Ai m.inn.length ci,.slice Ao m.out.length co,.int .i64 m.status,.int .i64 m.trap] 29,am gc [.int .i64 o.c,.int .i64 o.a] 49,am gf [fx0,fx1,.int .i64 fr,fx3] 110,am gn [.int .i64 (s.length:Int)] 3,aj (.slice A (k+1) c) (li.map Prod.fst++ [(⟨f,p0,.slice Al l.length cl,.slice As s.length cs⟩:aT)]),aj (.slice Al l.length cl) l,cR li,aj (.slice Ab m.blocks.length cb) m.blocks,aj (.slice Ai m.inn.length ci) m.inn,aj (.slice Ao m.out.length co) m.out]) 0 (Nat.zero_le _) ⟨rfl,rfl,rfl,rfl,rfl,rfl,rfl,rfl,rfl,rfl,trivial⟩ me ?_)
 rintro i hi'
 have hi:i≤P:=hi'
 have hll:((s.drop (s.length - P)).take i++(cV (av fs q).locals).drop i).length=(cV (av fs q).locals).length:=by rw[List.length_append,List.length_take,List.length_drop,List.length_drop];omega
 refine ac<|ac<|aa<|rn 2 [4,5,6,7,9,10,13,14,15,16,246,247] rfl<|af (ai fc ar rfl rfl (by rfl)) rfl rfl ?_
 refine rn 1 [4,5,6,7,9,10,13,14,15,16,249] rfl<|ae<|aw rfl (fun hlt=>?_) (fun hlt=>?_)
 ·have hlt:i<P:=by have hlt:(i:Int)<(av fs q).params:=hlt;omega
  have hvi:aX (s.getD (s.length - P+i) default).n:=R.si _ (cN (by omega))
  have hst:=zn (s:=s) (L:=cV (av fs q).locals) (a:=s.length - P) (i:=i) (by omega) (by omega)
  refine ax (ap ?_)
  refine ac<|aL<|aa<|rn 2 [4,5,6,7,9,10,13,14,15,16,252,253] rfl<|af (ai fc a9 rfl rfl (by rfl)) rfl rfl ?_
  refine af (ai fc ar rfl rfl (by rfl)) rfl rfl ?_
  refine rn 1 [4,5,6,7,9,10,13,14,15,16,252,253,254,255,256] rfl<|af (ai fc ar rfl rfl (by rfl)) rfl rfl ?_
  refine af (bx rfl rfl rfl (by omega)) rfl rfl<|rn 1 [4,5,6,7,9,10,13,14,15,16,252,253,254,258,259] rfl<|af (bH rfl rfl rfl (by omega)) rfl rfl<|bA (t:=260) (v':= .int .i64 ((s.length - P+i:Nat):Int)) rfl (by congr 1;omega) ?_
  refine af (aO (k:=(s.length - P+i)) az aE (SF.own (xs:=s) rfl fc) (by omega) rfl rfl rfl) rfl rfl ?_
  refine af (cr (SF.val (SF.own rfl fc) (show s.length - P+i<s.length by omega) default) rfl rfl dr aE) rfl rfl ?_
  refine af (aO (k:=i) az aE (SF.own (A:=A3) (c:=c3) hll fc) (by omega) rfl rfl rfl) rfl rfl ?_
  refine ag (eW (α:=aS) (A:=A3) (c:=c3) (s.getD (s.length - P+i) default) default hst fc (by omega) hvi aE rfl rfl rfl rfl rfl rfl rfl rfl) rfl rfl (fun _ _=>?_)
  refine bE (aK (ap ?_))
  refine aa<|rn 1 [4,5,6,7,9,10,13,14,15,250] rfl<|af (bH rfl rfl rfl (by omega)) rfl rfl<|rn 1 [4,5,6,7,9,10,13,14,15,16] rfl<|br (i+1) (by show i+1≤_;omega) (by show _ - _<_ - _;omega) ⟨rfl,rfl,rfl,rfl,rfl,rfl,rfl,rfl,rfl,rfl,trivial⟩ me
 obtain rfl:i=P:=by have hlt:¬(i:Int)<(av fs q).params:=hlt;omega
 have htl:(s.take (s.length - i)).length=s.length - i:=by rw[List.length_take];omega
 refine bN (aM (aM (cc (ap ?_))))
 refine ac<|aa<|rn 2 [4,5,7,9,10,13,14,15,264,265] rfl<|af (ai fc a9 rfl rfl (by rfl)) rfl rfl ?_
 refine af (ai fc ar rfl rfl (by rfl)) rfl rfl ?_
 refine rn 1 [4,5,7,13,15,264,265,266,267,268] rfl<|af (ai fc ar rfl rfl (by rfl)) rfl rfl ?_
 refine af (bx rfl rfl rfl (by omega)) rfl rfl<|bA (t:=270) (v':= .int .i64 ((s.take (s.length - i)).length:Int)) rfl (by congr 1;omega) ?_
 refine af (fC (k:=(s.take (s.length - i)).length) az aE (by omega) rfl rfl rfl) rfl rfl<|rn 3 [4,5,7,15,265,271,272,274] rfl<|ag (iS (α:=aT) ⟨f,p0,.slice Al l.length cl,.slice As s.length cs⟩ ⟨f,p0,.slice Al l.length cl,.slice As (s.take (s.length - i)).length cs⟩ hlm fc ⟨⟨R.pi.1,R.pi.2.1⟩,rfl,rfl⟩ dd rfl rfl rfl rfl rfl rfl rfl rfl) rfl rfl (fun _ _=>?_)
 refine rn 2 [4,5,7,15,272,276] rfl<|ag (iS (α:=aT) ⟨f,p0,.slice Al l.length cl,.slice As (s.take (s.length - i)).length cs⟩ ⟨f,p1,.slice Al l.length cl,.slice As (s.take (s.length - i)).length cs⟩ hlm fc ⟨⟨R.pi.1,R.pi.2.2⟩,rfl,rfl⟩ aI rfl rfl rfl rfl rfl rfl rfl rfl) rfl rfl (fun _ _=>?_)
 refine ae<|ac<|aa<|rn 1 [4,5,7,15,277] rfl<|af (ai fc cd rfl rfl (by rfl)) rfl rfl ?_
 refine rn 1 [4,5,15,278,279] rfl<|af (ai fc ar rfl rfl (by rfl)) rfl rfl ?_
 refine rn 1 [4,5,278,280,281] rfl<|af (cT (cs:= [_,_,_,_]) sJ df rfl rfl (by rfl)) rfl rfl ?_
 refine ag (bh (cs:= [_,_,_,_]) a6 bG df rfl rfl rfl rfl rfl) rfl rfl (fun g2 _=>?_)
 refine ag (dm (α:=aT) (bytes:=64) ⟨o.a,0,.slice A3 (cV (av fs q).locals).length c3,.slice none 0 0⟩ [] rfl a6 (bM j7) rfl (eA (R:=aj (.slice A (k+1) c) _) fc fc) (dI ⟨⟨R.oa,by show aX 0;decide⟩,rfl,rfl⟩) (by rw[List.length_append,hlm];show k+1+1≤_;omega) (by rw[List.length_append,hlm];show (k+1+1)*64≤_;omega) rfl rfl rfl) rfl rfl (fun⟨A5,c5⟩ _=>?_)
 try dsimp only
 refine rn 1 [4,5,284,285] rfl<|ag (aH _ fc fA rfl rfl rfl rfl rfl (by rfl) rfl (by rfl)) rfl rfl (fun _ _=>?_)
 refine ae<|ac<|aa<|af (aQ (vs:= [_,_,_,_,_,_]) fc bd aF rfl rfl (by rfl) rfl) rfl rfl ?_
 refine ag (aH _ fc aF rfl rfl rfl rfl rfl (by rfl) rfl (by rfl)) rfl rfl (fun _ _=>?_)
 refine ae ?_
 have e2:∀a b:aT,(li.map Prod.fst++ [a]++ [b]).length=k+2:=fun a b=>by rw[List.length_append,List.length_append,hlm];rfl
 have e3:(s.drop (s.length - i)).take i=s.drop (s.length - i):=List.take_of_length_le (by rw[List.length_drop];omega)
 refine au<|dY (KR {m with frames:=li.map Prod.snd++ [⟨f,p1,l,s.take (s.length - i)⟩,⟨o.a,0,(s.drop (s.length - i)).take i++(cV (av fs q).locals).drop i,[]⟩]} ⟨A5,c5,Ab,cb,Ai,ci,Ao,co⟩ (by dsimp only[bP];rw[if_neg (by omega)];rw[if_neg (by omega)];rw[if_neg (by omega)];rw[if_neg (by omega)];rw[if_neg (by omega)];rw[if_neg (by omega)];rw[if_neg (by omega)];rw[if_neg (by omega)];rw[if_neg (by omega)];rw[if_neg (by omega)];rw[if_neg (by omega)];rw[if_pos hc,if_neg (by omega),hq,hP,Int.toNat_natCast,e3])) ⟨rfl,trivial⟩ (fun w h=>by rw[e2] at h;have h1:=rr (List.take_prefix (s.length - i) s) (h.msub (.s fc .r));have h2:=Cw.nilO aS h1;exact(vX (gd:=gr) (A:=A5) (c:=c5) (k:=k) (li:=li) (h:=⟨f,p1,.slice Al l.length cl,.slice As (s.take (s.length - i)).length cs⟩) (x:=⟨f,p1,l,s.take (s.length - i)⟩) (h2:=⟨o.a,0,.slice A3 (cV (av fs q).locals).length c3,.slice none 0 0⟩) (x2:=⟨o.a,0,(s.drop (s.length - i)).take i++(cV (av fs q).locals).drop i,[]⟩) (b:= [.slice Ab m.blocks.length cb,.slice Ai m.inn.length ci,.slice Ao m.out.length co,.int .i64 m.status,.int .i64 m.trap]) (T:=29) (H:= [aj (.slice Ab m.blocks.length cb) m.blocks,aj (.slice Ai m.inn.length ci) m.inn,aj (.slice Ao m.out.length co) m.out]) R.hk R.hok ⟨rfl,rfl⟩ ⟨rfl,rfl⟩ (h2.msub ms)).msub ms)
set_option maxRecDepth 100000 in
set_option maxHeartbeats 2000000 in
theorem Ed (R:jm B w0 fs m a li k Ap cp f p0 p1 l s o fr) (hc:o.c=13) (hrz:rz.length=6) (KR:∀(y:aD) (g:MA),bP fs m (li.map Prod.snd) ⟨f,p1,l,s⟩ o= .inr y→XW ⟨551,[]⟩ B w0 Q .ret [(4,.pointer (some ⟨gr,0,none⟩))] (am gr [.slice g.Af y.frames.length g.cf,.slice g.Ab y.blocks.length g.cb,.slice g.Ai y.inn.length g.ci,.slice g.Ao y.out.length g.co,.int .i64 y.status,.int .i64 y.trap] 29::aj (.slice g.Af y.frames.length g.cf) y.frames::aj (.slice g.Ab y.blocks.length g.cb) y.blocks::aj (.slice g.Ai y.inn.length g.ci) y.inn::aj (.slice g.Ao y.out.length g.co) y.out:: [])):CW Tryz.prog ⟨551,[]⟩ B w0 (iF [true,true,true,true,true,true,true,true,true,true,true,false,true,false,true,true,true,true,true,true,true,true,true,true,true,true,true,true,true,true,true,true,true,true,true,true,true,true,true,false] (eY Tryz.f25)) Q [(4,.pointer (some ⟨gr,0,none⟩)),(5,.pointer (some ⟨go,0,none⟩)),(8,.pointer (some ⟨gf,0,none⟩)),(9,.pointer (some ⟨gs,0,none⟩)),(10,.pointer (some ⟨gn,0,none⟩))] [am gs [.slice As s.length cs] 95,aj (.slice As s.length cs) s,am gp [.slice Ap fs.length cp] 24,am gm [.slice a.Af m.frames.length a.cf,.slice a.Ab m.blocks.length a.cb,.slice a.Ai m.inn.length a.ci,.slice a.Ao m.out.length a.co,.int .i64 m.status,.int .i64 m.trap] 29,am gr rz 29,am go [.slice A (k+1) c,.slice Ab m.blocks.length cb,.slice Ai m.inn.length ci,.slice Ao m.out.length co,.int .i64 m.status,.int .i64 m.trap] 29,am gc [.int .i64 o.c,.int .i64 o.a] 49,am gf [fx0,fx1,.int .i64 fr,fx3] 110,am gn [.int .i64 (s.length:Int)] 3,aj (.slice A (k+1) c) (li.map Prod.fst++ [(⟨f,p0,.slice Al l.length cl,.slice As s.length cs⟩:aT)]),aj (.slice Al l.length cl) l,cR li,aj (.slice Ab m.blocks.length cb) m.blocks,aj (.slice Ai m.inn.length ci) m.inn,aj (.slice Ao m.out.length co) m.out]:=by
 have hsl:=R.sl
 have hk6:=R.k6
 obtain⟨hf0,hf1,hfr,hfr0⟩:=R.fn
 obtain⟨_,hret⟩:=R.nd.ret hc
 have hret:(av fs f.toNat).result≠0→1≤s.length:=hret
 obtain⟨z0,z1,z2,z3,z4,z5,rfl⟩:∃z0 z1 z2 z3 z4 z5,rz= [z0,z1,z2,z3,z4,z5]:=kU rz hrz
 have hlm:(li.map Prod.fst).length=k:=by rw[List.length_map];exact R.hk
 have hmf:=R.mf
 have hok:=R.hok
 have hkl:=R.hk
 have hst:=R.hst
 have hlk:∀h:aT,(li.map Prod.fst++ [h]).length=k+1:=fun h=>by rw[List.length_append,hlm];rfl
 refine dD (fun w h=>eK h (xs:=li.map Prod.fst++ [(⟨f,p0,.slice Al l.length cl,.slice As s.length cs⟩:aT)]) fc) fun hcapf=>?_
 refine ac<|aa<|rn 1 [4,5,8,9,10,289] rfl<|af (ai fc cd rfl rfl (by rfl)) rfl rfl ?_
 refine rn 1 [4,5,8,9,10,290,291] rfl<|af (ai fc cd rfl rfl (by rfl)) rfl rfl ?_
 refine af (aN a6 rfl rfl) rfl rfl<|af (bx rfl rfl rfl (by omega)) rfl rfl<|bA (t:=294) (v':= .int .i64 (k:Int)) rfl (by congr 1;omega) ?_
 refine af (fC (k:=k) a6 bG (by omega) rfl rfl rfl) rfl rfl<|rn 1 [4,5,8,9,10,295,296] rfl<|ag (aH _ fc fA rfl rfl rfl rfl rfl (by rfl) rfl (by rfl)) rfl rfl (fun _ _=>?_)
 refine ae<|ac<|ac<|aa<|rn 1 [4,5,8,9,10,297] rfl<|af (ai fc cd rfl rfl (by rfl)) rfl rfl ?_
 refine af (aN a6 rfl rfl) rfl rfl<|rn 1 [4,5,8,9,10,300] rfl<|ae<|dO (fun w h=>pH hlm (h.msub (.s fc .r))) ?_
 refine aw rfl (fun h0=>?_) (fun h0=>?_)
 ·have h0:k=0:=by have h0:(k:Int)=0:=h0;omega
  subst h0
  have hnil:li= []:=List.eq_nil_of_length_eq_zero hkl
  subst hnil
  refine ac<|aa<|rn 1 [4,5,301] rfl<|ag (aH _ fc aI rfl rfl rfl rfl rfl (by rfl) rfl (by rfl)) rfl rfl (fun _ _=>?_)
  refine ae<|ac<|aa<|af (aQ (vs:= [_,_,_,_,_,_]) fc bd aF rfl rfl (by rfl) rfl) rfl rfl ?_
  refine ag (aH _ fc aF rfl rfl rfl rfl rfl (by rfl) rfl (by rfl)) rfl rfl (fun _ _=>?_)
  refine ae<|au (ak ?_)
  refine dY (KR {m with frames:= [],status:=2} ⟨A,c,Ab,cb,Ai,ci,Ao,co⟩ (by dsimp only[bP];rw[if_neg (by omega)];rw[if_neg (by omega)];rw[if_neg (by omega)];rw[if_neg (by omega)];rw[if_neg (by omega)];rw[if_neg (by omega)];rw[if_neg (by omega)];rw[if_neg (by omega)];rw[if_neg (by omega)];rw[if_neg (by omega)];rw[if_neg (by omega)];rw[if_neg (by omega)];rw[if_pos hc];unfold mw;rw[if_pos (show List.map Prod.snd ([]:List (aT×aW))= [] from rfl)])) ⟨rfl,trivial⟩ (fun w h=>(oN (v:= .slice A 0 c) (l:=([]:List (aT×aW))) hok (h.msub (T:=aj (.slice A 0 c) (([]:List (aT×aW)).map Prod.fst)::cR []:: [am gr [.slice A 0 c,.slice Ab m.blocks.length cb,.slice Ai m.inn.length ci,.slice Ao m.out.length co,.int .i64 2,.int .i64 m.trap] 29,aj (.slice Ab m.blocks.length cb) m.blocks,aj (.slice Ai m.inn.length ci) m.inn,aj (.slice Ao m.out.length co) m.out]) ms)).msub ms)
 have h0:¬k=0:=by have h0:¬(k:Int)=0:=h0;omega
 obtain⟨k',rfl⟩:∃k',k=k'+1:=⟨k - 1,by omega⟩
 obtain⟨lp,q,rfl⟩:∃l q,li=l++ [q]:=by
  rcases List.eq_nil_or_concat li with h1 | ⟨l,z,h1⟩
  ·rw[h1] at hkl;simp at hkl
  exact⟨l,z,by rw[h1];simp⟩
 obtain⟨h,y⟩:=q
 have hkp:lp.length=k':=by rw[List.length_append,List.length_singleton] at hkl;omega
 have hok2:=hok.left
 have hok3:h.func=y.func∧h.pc=y.pc:=hok (h,y) (by simp)
 obtain⟨hf',hpc,hlv,hsv⟩:=h
 have hys:y.stack.length≤1000:=hst (_,y) (List.mem_append_right _ (List.mem_singleton.2 rfl))
 have hlmp:(lp.map Prod.fst).length=k':=by rw[List.length_map];exact hkp
 refine dO (fun w hw=>pS (hw.msub (.s fc .r))) ?_
 refine dD (fun w hw=>hw.oform (v:=hsv) (xs:=y.stack) .b) ?_
 rintro⟨As',cs',rfl⟩
 simp only[List.map_append,List.map_cons,List.map_nil] at *
 refine dD (fun w hw=>(m6 hw fc:aT.wf ⟨hf',hpc,hlv,.slice As' y.stack.length cs'⟩)) fun hwf=>?_
 have hlkp:∀h:aT,(lp.map Prod.fst++ [h]).length=k'+1:=fun h=>by rw[List.length_append,hlmp];rfl
 have e3:∀z:aW,(lp.map Prod.snd++ [z]).length=k'+1:=fun z=>by rw[List.length_append,List.length_map,hkp];rfl
 have e4:lp.map Prod.snd++ [y]≠[]:=by simp
 refine ax (ap ?_)
 refine ac<|ac<|aa<|rn 1 [4,5,9,10,303] rfl<|af (ai fc ar rfl rfl (by rfl)) rfl rfl ?_
 refine rn 1 [4,5,9,10,305] rfl<|ae<|aw rfl (fun hr=>?_) (fun hr=>?_)
 ·have hr:0<fr:=hr
  have hr2:¬(av fs f.toNat).result=0:=by omega
  have h1:1≤s.length:=hret hr2
  have hv:s.getD (s.length - 1) default=aP s:=dQ.symm
  have hvi:aX (aP s).n:=by rw[dQ];exact R.si _ (cN (by omega))
  refine ac<|aa<|rn 1 [4,5,9,10,306] rfl<|af (ai fc cd rfl rfl (by rfl)) rfl rfl ?_
  refine rn 1 [4,5,9,10,307,308] rfl<|af (ai fc cd rfl rfl (by rfl)) rfl rfl ?_
  refine af (aN a6 rfl rfl) rfl rfl<|af (bx rfl rfl rfl (by omega)) rfl rfl<|bA (t:=311) (v':= .int .i64 (k':Int)) rfl (by congr 1;omega) ?_
  refine af (aO (k:=k') a6 bG (SF.own (hlkp ⟨hf',hpc,hlv,.slice As' y.stack.length cs'⟩) fc) (by omega) rfl rfl rfl) rfl rfl ?_
  refine rn 1 [4,5,9,10,17] rfl<|ae<|e8 (.still 0 (.still 1 (.still 2 (.still 3 (.still 4 (.still 5 (.still 6 (.still 7 (.still 8 (.still 9 (.pick 10 (.pick 11 (.still 12 (.still 13 (.pick 14 .done .stop))) .stop) .stop))))))))))) [14] rfl (by kernel_rfl) (by kernel_rfl) [aj (.slice A (k'+1) c) (lp.map Prod.fst++ [(⟨hf',hpc,hlv,.slice As' y.stack.length cs'⟩:aT)]),am gs [.slice As s.length cs] 95,am gn [.int .i64 (s.length:Int)] 3,aj (.slice As s.length cs) s] ?_
  refine aV ha 4 [4,5,9,10,313,316] rfl<|an rfl (a8 (eq (j:=3) hlmp fc rfl) rfl rfl a9) rfl rfl ha ?_
  refine an rfl (ai fc a9 rfl rfl (by rfl)) rfl rfl ha ?_
  refine an rfl (ai fc ar rfl rfl (by rfl)) rfl rfl ha ?_
  refine an rfl (bx rfl rfl rfl (by omega)) rfl rfl ha ?_
  refine dh (t:=320) (v':= .int .i64 ((s.length - 1:Nat):Int)) rfl (by congr 1;omega) ?_
  refine an rfl (aO (k:=(s.length - 1)) az aE (SF.own (xs:=s) (A:=As) (c:=cs) rfl fc) (by omega) rfl rfl rfl) rfl rfl ha ?_
  refine an rfl (cr (SF.val (SF.own rfl fc) (show s.length - 1<s.length by omega) default) rfl rfl dr aE) rfl rfl ha ?_
  refine aB rfl (bh (cs:= [_,_]) az aE bu rfl rfl rfl rfl rfl) rfl rfl (.inr fun _=>ha) (fun g1 _=>?_) ay
  rw[hv]
  refine aB rfl (dm (α:=aS) (bytes:=16) (aP s) [] rfl az (bM dk) rfl (eA (R:=aj (.slice As' y.stack.length cs') y.stack) fc fc) (dI hvi) (by omega) (by omega) rfl rfl rfl) rfl rfl (.inr fun _=>ha) (fun⟨A3,c3⟩ _=>?_) ay
  try dsimp only
  refine aV ha 2 [4,5,324,326] rfl<|aB rfl (iS (α:=aT) ⟨hf',hpc,hlv,.slice As' y.stack.length cs'⟩ ⟨hf',hpc,hlv,.slice A3 (y.stack++ [aP s]).length c3⟩ hlmp fc ⟨hwf.1,hwf.2.1,rfl⟩ dd rfl rfl rfl rfl rfl rfl rfl rfl) rfl rfl (.inl rfl) (fun _ _=>?_) ay
  refine cJ<|ac<|aa<|af (aQ (vs:= [_,_,_,_,_,_]) fc bd aF rfl rfl (by rfl) rfl) rfl rfl ?_
  refine ag (aH _ fc aF rfl rfl rfl rfl rfl (by rfl) rfl (by rfl)) rfl rfl (fun _ _=>?_)
  refine ae<|au<|dY (KR {m with frames:=lp.map Prod.snd++ [{y with stack:=y.stack++ [aP s]}]} ⟨A,c,Ab,cb,Ai,ci,Ao,co⟩ (by dsimp only[bP];rw[if_neg (by omega)];rw[if_neg (by omega)];rw[if_neg (by omega)];rw[if_neg (by omega)];rw[if_neg (by omega)];rw[if_neg (by omega)];rw[if_neg (by omega)];rw[if_neg (by omega)];rw[if_neg (by omega)];rw[if_neg (by omega)];rw[if_neg (by omega)];rw[if_neg (by omega)];rw[if_pos hc,p8,ot,if_neg hr2,if_neg e4])) ⟨rfl,trivial⟩ (fun w h=>by dsimp only;rw[e3];exact(jO (li:=lp) (h:=⟨hf',hpc,hlv,.slice A3 (y.stack++ [aP s]).length c3⟩) (x:= {y with stack:=y.stack++ [aP s]}) hok2 hok3 (h.msub (T:=aj (.slice A (k'+1) c) (lp.map Prod.fst++ [(⟨hf',hpc,hlv,.slice A3 (y.stack++ [aP s]).length c3⟩:aT)])::aj hlv y.locals::aj (.slice A3 (y.stack++ [aP s]).length c3) (y.stack++ [aP s])::cR lp:: [am gr [.slice A (k'+1) c,.slice Ab m.blocks.length cb,.slice Ai m.inn.length ci,.slice Ao m.out.length co,.int .i64 m.status,.int .i64 m.trap] 29,aj (.slice Ab m.blocks.length cb) m.blocks,aj (.slice Ai m.inn.length ci) m.inn,aj (.slice Ao m.out.length co) m.out]) ms)).msub ms)
 have hr:¬0<fr:=hr
 have hr2:(av fs f.toNat).result=0:=by omega
 refine ax (ap ?_)
 refine ac<|aa<|af (aQ (vs:= [_,_,_,_,_,_]) fc bd aF rfl rfl (by rfl) rfl) rfl rfl ?_
 refine ag (aH _ fc aF rfl rfl rfl rfl rfl (by rfl) rfl (by rfl)) rfl rfl (fun _ _=>?_)
 refine ae<|au<|dY (KR {m with frames:=lp.map Prod.snd++ [y]} ⟨A,c,Ab,cb,Ai,ci,Ao,co⟩ (by dsimp only[bP];rw[if_neg (by omega)];rw[if_neg (by omega)];rw[if_neg (by omega)];rw[if_neg (by omega)];rw[if_neg (by omega)];rw[if_neg (by omega)];rw[if_neg (by omega)];rw[if_neg (by omega)];rw[if_neg (by omega)];rw[if_neg (by omega)];rw[if_neg (by omega)];rw[if_neg (by omega)];rw[if_pos hc,p8,ot,if_pos hr2,if_neg e4,List.append_nil])) ⟨rfl,trivial⟩ (fun w h=>by dsimp only;rw[e3];exact(jO (li:=lp) (h:=⟨hf',hpc,hlv,.slice As' y.stack.length cs'⟩) (x:=y) hok2 hok3 (h.msub (T:=aj (.slice A (k'+1) c) (lp.map Prod.fst++ [(⟨hf',hpc,hlv,.slice As' y.stack.length cs'⟩:aT)])::aj hlv y.locals::aj (.slice As' y.stack.length cs') y.stack::cR lp:: [am gr [.slice A (k'+1) c,.slice Ab m.blocks.length cb,.slice Ai m.inn.length ci,.slice Ao m.out.length co,.int .i64 m.status,.int .i64 m.trap] 29,aj (.slice Ab m.blocks.length cb) m.blocks,aj (.slice Ai m.inn.length ci) m.inn,aj (.slice Ao m.out.length co) m.out]) ms)).msub ms)
end
end
section
theorem nT {α:Type} {l:List α} {k:Nat} (h:k<l.length) (x d:α):(l.set k x).getD k d=x:=by
 rw[List.getD_eq_getElem?_getD,List.getElem?_set_self h]
 rfl
theorem vF {P:Program} {n:NF} {o:Oper} {env:de} {B:Nat} {w0:World} {H:List bj} {i j:Operand} {t u:TypeId} {x y:Int} {a b:Nat} (ha:x=a∧a≤1000000) (hb:y=b∧0<b) (hop:o.op= .binOp .rem t i j u) (hi:opv env i=some (.int .i64 x)) (hj:opv env j=some (.int .i64 y)):QS P n B w0 o env H (.int .i64 (((a % b:Nat)):Int)):=by
 obtain⟨rfl,ha⟩:=ha
 obtain⟨rfl,hb⟩:=hb
 refine kz hop hi hj (by decide) fun w=>?_
 have e:(a:Int).tmod b=((a % b:Nat):Int):=by rw[Int.tmod_eq_emod_of_nonneg (by omega)];omega
 have h1:(a % b:Nat)≤1000000:=Nat.le_trans (Nat.mod_le _ _) ha
 simp only[binOp,Op.intDiv,ne_eq,not_true_eq_false,if_false]
 rw[if_neg (by omega),e]
 simp
section
variable {B:Nat} {w0:World} {H:List bj}
set_option maxRecDepth 100000 in
set_option maxHeartbeats 2000000 in
theorem se (gx i n c:Nat) (A:Option Addr) (l:List aD) (z:Int) (hl:l.length=n) (hi:i<n) (hz:aX z) (hb:(aJ l i).inn.length≤10) (w:World)
  (hw:Cw B w0 (am gx [.slice A n c] 124::aj (.slice A n c) l::H) w) :
  Calls Tryz.prog 94 #[.pointer (some ⟨gx,0,none⟩),.int .i64 (i:Int),.int .i64 z] w fun e w'=> ∃_:Unit,True∧e= .returned (.bool (!decide ((aJ l i).inn.length=10)))∧
   Cw B w0 (am gx [.slice A n c] 124::aj (.slice A n c) (if (aJ l i).inn.length=10 then l else l.set i (eO (aJ l i) z))::H) w':=by
 have b1:n≤140737488355328:=bO (SF.at_ (SF.own (xs:=l) hl (.s .a)) hw)
 refine db Tryz.func94 rfl Tryz.ntmps94 rfl hw ?_
 refine oI (L:=l) (k:=i) (by omega) fc fun X hs a hA=>?_
 have hhl:hs.length=n:=hA.len.trans hl
 have hhd:=hA.hd
 have hI:=hA.i64
 refine ac<|aa<|rn 1 [0,1,2] rfl<|ae<|ac<|aa<|rn 4 [1,2,11] rfl<|af (ai fc cM rfl rfl (by rfl)) rfl rfl ?_
 refine rn 1 [2,12,13] rfl<|af (aO (k:=i) bn aF (SF.own (xs:=hs) hhl fc) (by omega) rfl rfl rfl) rfl rfl ?_
 refine rn 1 [2,7] rfl<|ae<|ac<|ac<|aa<|rn 3 [2,7,17] rfl<|af (a8 (fun w hw=>(SF.hmc (SF.own (xs:=hs) hhl fc) hi hhd) w hw 2 _ rfl) rfl rfl a5) rfl rfl ?_
 refine af (aN ah rfl rfl) rfl rfl<|rn 1 [2,7,20] rfl<|ae<|aw rfl (fun h10=>?_) (fun h10=>?_)
 ·have h10:(aJ l i).inn.length=10:=by have h10:((aJ l i).inn.length:Int)=10:=h10;omega
  refine ac<|aa<|rn 1 [6] rfl<|ae<|au (ak ?_)
  refine aA EQ (aq rfl) ?_
  intro w hw
  refine⟨(),trivial,?_,?_⟩
  ·rw[decide_eq_true h10];rfl
  rw[if_pos h10]
  exact(hA.same (by omega) (hw.msub (.s fc (.s fc (.s fc (.s fc (.s fc (.s fc .r)))))))).msub ms
 have h10:¬(aJ l i).inn.length=10:=by have h10:¬((aJ l i).inn.length:Int)=10:=h10;omega
 refine ax (ap ?_)
 refine ac<|aa<|rn 4 [2,7,21,24] rfl<|af (a8 (fun w hw=>(SF.hmc (SF.own (xs:=hs) hhl fc) hi hhd) w hw 2 _ rfl) rfl rfl a5) rfl rfl ?_
 refine rn 1 [7,21,25,26] rfl<|ag (bh (cs:= [_]) ah aI a7 rfl rfl rfl rfl rfl) rfl rfl (fun g1 _=>?_)
 refine ag (dm (α:=Int) (bytes:=8) z [] rfl ah (bM da) rfl (eA (R:=aj (.slice a.Ai (aJ l i).inn.length a.ci) (aJ l i).inn) fc fc) (pe hz) (by omega) (by omega) rfl rfl rfl) rfl rfl (fun⟨A5,c5⟩ _=>?_)
 try dsimp only
 refine rn 2 [7,28,30] rfl<|ag (kZ (α:=ec) (A:=A) (c:=c) (m:=n) (f:=2) (us:= [.slice A5 ((aJ l i).inn++ [z]).length c5]) (hZ ⟨a.Af,a.cf,a.Ab,a.cb,A5,c5,a.Ao,a.co⟩ {aJ l i with inn:=(aJ l i).inn++ [z]}) default rfl fc hi (m9 hI) bV rfl rfl rfl rfl rfl rfl (by rw[hhd];rfl) rfl) rfl rfl (fun _ _=>?_)
 refine ae<|ac<|ac<|aa<|rn 3 [7,33] rfl ?_
 have hhl2:(hs.set i (hZ ⟨a.Af,a.cf,a.Ab,a.cb,A5,c5,a.Ao,a.co⟩ {aJ l i with inn:=(aJ l i).inn++ [z]})).length=n:=by rw[List.length_set];exact hhl
 have hhd2:(hs.set i (hZ ⟨a.Af,a.cf,a.Ab,a.cb,A5,c5,a.Ao,a.co⟩ {aJ l i with inn:=(aJ l i).inn++ [z]})).getD i default=hZ ⟨a.Af,a.cf,a.Ab,a.cb,A5,c5,a.Ao,a.co⟩ {aJ l i with inn:=(aJ l i).inn++ [z]} :=nT (by omega) _ _
 refine af (a8 (fun w hw=>(SF.hmc (SF.own (A:=A) (c:=c) hhl2 fc) hi hhd2) w hw 4 _ rfl) rfl rfl ar) rfl rfl ?_
 refine rn 1 [7,35] rfl<|ae<|aw rfl (fun h1=>?_) (fun h1=>?_)
 ·have h1:(aJ l i).status=1:=h1
  refine aa<|rn 3 [38] rfl<|ag (kZ (α:=ec) (A:=A) (c:=c) (m:=n) (f:=4) (us:= [.int .i64 0]) (hZ ⟨a.Af,a.cf,a.Ab,a.cb,A5,c5,a.Ao,a.co⟩ (eO (aJ l i) z)) default (List.set_set ..).symm fc hi (m9 ⟨by unfold eO;dsimp only;rw[if_pos h1];decide,hI.2⟩) aI rfl rfl rfl rfl rfl rfl (by rw[hhd2];unfold eO;rw[if_pos h1];rfl) rfl) rfl rfl (fun _ _=>?_)
  refine ae<|ac<|aa<|rn 1 [6] rfl<|ae<|au<|aA EQ (aq rfl) ?_
  intro w hw
  refine⟨(),trivial,?_,?_⟩
  ·rw[decide_eq_false h10];rfl
  rw[if_neg h10]
  exact(hA.back _ ⟨a.Af,a.cf,a.Ab,a.cb,A5,c5,a.Ao,a.co⟩ (eO (aJ l i) z) _ _ (hw.msub (.s fc (.s fc (.s fc (.s fc (.s fc (.s fc .r)))))))).msub ms
 have h1:¬(aJ l i).status=1:=h1
 have e1:eO (aJ l i) z= {aJ l i with inn:=(aJ l i).inn++ [z]} :=by unfold eO;rw[if_neg h1]
 refine ax (ap ?_)
 refine ac<|aa<|rn 1 [6] rfl<|ae<|au<|aA EQ (aq rfl) ?_
 intro w hw
 refine⟨(),trivial,?_,?_⟩
 ·rw[decide_eq_false h10];rfl
 rw[if_neg h10,e1]
 exact(hA.back _ ⟨a.Af,a.cf,a.Ab,a.cb,A5,c5,a.Ao,a.co⟩ {aJ l i with inn:=(aJ l i).inn++ [z]} _ _ (hw.msub (.s fc (.s fc (.s fc (.s fc (.s fc (.s fc .r)))))))).msub ms
end
end
section
section
variable {B:Nat} {w0:World} {H:List bj}
set_option maxRecDepth 100000 in
set_option maxHeartbeats 4000000 in
theorem tI (gx n c:Nat) (A:Option Addr) (fs:List aC) (l:List aD) (hl:l.length=n) (hR:∀m∈l,cI fs m) (hn:1≤n∧n≤4) (r:List aD×Nat) (hr:iw l=r) (w:World)
  (hw:Cw B w0 (am gx [.slice A n c] 124::aj (.slice A n c) l::H) w) :
  Calls Tryz.prog 92 #[.pointer (some ⟨gx,0,none⟩)] w fun e w'=> ∃_:Unit,True∧e= .returned (.int .i64 (r.2:Int))∧
   Cw B w0 (am gx [.slice A n c] 124::aj (.slice A n c) r.1::H) w':=by
 subst hr
 have hsum:∀k,k≤n→(bJ l k).2≤1000:=fun k hk=>by
  have h:=(hU (fs:=fs) l k (by omega)).1
  have e:=h.cnt (fun j=>(aJ l j).out.length - (aJ (bJ l k).1 j).out.length) fun j hj=>by have:=h.fewer j hj;omega
  have hb:∀j,j<l.length→(aJ l j).out.length≤10:=fun j hj=>(hR _ (fG hj)).ob
  have:∀q,q≤l.length→((List.range q).map fun j=>(aJ l j).out.length - (aJ (bJ l k).1 j).out.length).sum≤10*q:=by
   intro q
   induction q with
   | zero=>exact fun _=>Nat.le_refl _
   | succ q ih=>
    intro hq
    have h1:=ih (by omega)
    have h2:=hb q (by omega)
    rw[List.range_succ,List.map_append,List.sum_append]
    simp only[List.map_cons,List.map_nil,List.sum_cons,List.sum_nil]
    omega
  have h2:=this l.length (Nat.le_refl _)
  rw[e] at h2
  omega
 refine db Tryz.func92 rfl Tryz.ntmps92 rfl hw ?_
 refine ac<|aa<|rn 1 [0] rfl<|ae<|ac<|aa<|rn 1 [0,3] rfl<|ae<|ac<|ac<|aa<|rn 4 [0,3,10] rfl<|af (ai fc cM rfl rfl (by rfl)) rfl rfl ?_
 refine af (aN bn rfl rfl) rfl rfl<|rn 1 [0,3,12,13] rfl<|ae<|aL (b8 (fun k:Nat=>k≤n) (fun k=>n - k) (fun k=> [(0,.pointer (some ⟨gx,0,none⟩)),(3,.int .i64 ((bJ l k).2:Int)),(12,.int .i64 (n:Int)),(13,.int .i64 (k:Int))]) (fun k=>am gx [.slice A n c] 124::aj (.slice A n c) (bJ l k).1::H) 0 (Nat.zero_le _) ⟨rfl,rfl,rfl,rfl,trivial⟩ me ?_)
 rintro k hk'
 have hk:k≤n:=hk'
 have hf:=(hU (fs:=fs) l k (by omega)).1
 have hlen:=hf.len
 refine ac<|aa<|rn 1 [0,3,12,13,14] rfl<|ae<|ac<|aw rfl (fun hlt=>?_) (fun hlt=>?_)
 ·have hkn:k<n:=by omega
  have hto:fm k l.length<n:=by have:=mZ (i:=k) (n:=l.length) (by omega);omega
  obtain⟨to_,hto2⟩:∃t,fm k l.length=t:=⟨_,rfl⟩
  rw[hto2] at hto
  have hs1:(bJ l (k+1)).1=(dN (bJ l k).1 k to_).1:=by rw[←hto2];rfl
  have hs2:(bJ l (k+1)).2=(bJ l k).2+(dN (bJ l k).1 k to_).2:=by rw[←hto2];rfl
  have hsk:=hsum (k+1) (by omega)
  have hsk0:=hsum k (by omega)
  refine ax (ap ?_)
  refine ac<|aL<|ac<|aa<|rn 2 [0,3,4,12,13] rfl<|ae<|ac<|aa<|rn 4 [0,3,4,12,13,19] rfl<|af (ai fc cM rfl rfl (by rfl)) rfl rfl ?_
  refine rn 1 [0,3,4,12,13,20,21] rfl<|af (aO (k:=k) bn aF (SF.own (xs:=(bJ l k).1) (A:=A) (c:=c) (m:=n) (by omega) fc) (by omega) rfl rfl rfl) rfl rfl ?_
  refine rn 1 [0,3,4,5,12,13] rfl<|ae<|ac<|aa<|rn 1 [0,3,5,12,13,23] rfl<|af (bH rfl rfl rfl (by omega)) rfl rfl<|rn 4 [0,3,5,12,13,24,28] rfl<|af (ai fc cM rfl rfl (by rfl)) rfl rfl ?_
  refine af (aN bn rfl rfl) rfl rfl<|af (vF (a:=k+1) (b:=n) (by omega) (by omega) rfl rfl rfl) rfl rfl<|rn 1 [0,3,5,6,12,13] rfl<|ae<|cP (t:=6) (v':= .int .i64 (to_:Int)) rfl (by rw[←hto2,←hl];rfl) ?_
  refine aL (b8 (fun g:List aD×Nat=>((g.1.length=n∧∀m∈g.1,cI fs m)∧(dN g.1 k to_).1=(bJ l (k+1)).1)∧(bJ l k).2+g.2+(dN g.1 k to_).2=(bJ l (k+1)).2) (fun g=>(aJ g.1 k).out.length) (fun g=> [(0,.pointer (some ⟨gx,0,none⟩)),(3,.int .i64 (((bJ l k).2+g.2:Nat):Int)),(5,.pointer (some ⟨ab A,ao A+k*6,none⟩)),(6,.int .i64 (to_:Int)),(12,.int .i64 (n:Int)),(13,.int .i64 (k:Int))]) (fun g=>am gx [.slice A n c] 124::aj (.slice A n c) g.1::H) ((bJ l k).1,0) (⟨⟨⟨by show (bJ l k).1.length=n;omega,hf.right hR⟩,hs1.symm⟩,by show (bJ l k).2+0+(dN (bJ l k).1 k to_).2=_;rw[hs2];omega⟩) ⟨rfl,rfl,rfl,rfl,rfl,rfl,trivial⟩ me ?_)
  rintro⟨l',q⟩ hq'
  try dsimp only
  obtain⟨⟨⟨hl',hR'⟩,hq1⟩,hq2⟩:((l'.length=n∧∀m∈l',cI fs m)∧(dN l' k to_).1=(bJ l (k+1)).1)∧(bJ l k).2+q+(dN l' k to_).2=(bJ l (k+1)).2:=hq'
  have hse:=pM (l:=l') (i:=k) (to_:=to_) (by omega) (by omega)
  have hRk:=hR' _ (fG (l:=l') (k:=k) (by omega))
  have hRt:=hR' _ (fG (l:=l') (k:=to_) (by omega))
  have hob:=hRk.ob
  have hib:=hRt.ib
  refine oI (L:=l') (k:=k) (by omega) fc fun X hs a hA=>?_
  have hhl:hs.length=n:=hA.len.trans hl'
  have hhd:=hA.hd
  refine ac<|ac<|aa<|rn 3 [0,3,5,6,12,13,34] rfl<|af (a8 (fun w hw=>(SF.hmc (SF.own (xs:=hs) (A:=A) (c:=c) hhl fc) hkn hhd) w hw 3 _ rfl) rfl rfl a5) rfl rfl ?_
  refine af (aN ah rfl rfl) rfl rfl<|rn 2 [0,3,5,6,12,13,38] rfl<|bw (t:=38) rfl (fun h0=>?_) (fun h0=>?_)
  ·have h0:0<(aJ l' k).out.length:=by have:=of_decide_eq_true h0;omega
   have hz:aX ((aJ l' k).out.getD 0 0):=kI (hRk.oi _ (cN h0))
   refine rn 5 [0,3,5,6,12,13,38,39,40,43] rfl<|af (a8 (fun w hw=>(SF.hmc (SF.own (xs:=hs) (A:=A) (c:=c) hhl fc) hkn hhd) w hw 3 _ rfl) rfl rfl a5) rfl rfl ?_
   refine af (aO (k:=0) ah aI (SF.own (xs:=(aJ l' k).out) (A:=a.Ao) (c:=a.co) rfl fc) (by omega) rfl rfl rfl) rfl rfl ?_
   refine af (a8 (SF.int (SF.own (xs:=(aJ l' k).out) (A:=a.Ao) (c:=a.co) rfl fc) (by omega)) rfl rfl ar) rfl rfl ?_
   refine iD (fun w h=>hA.same (by omega) (h.msub (.s fc (.s fc (.s fc (.s fc (.s fc (.s fc .r)))))))) ?_
   refine ag (bC rfl rfl rfl Tryz.call94 (fun w hw=>se gx to_ n c A l' ((aJ l' k).out.getD 0 0) hl' hto hz hib w (hw.msub (.s fc (.s fc .r))))) rfl rfl (fun _ _=>?_)
   refine rn 1 [0,3,5,6,12,13,48] rfl<|ae<|b9 rfl (fun h10=>?_) (fun h10=>?_)
   ·have h10:¬(aJ l' to_).inn.length=10:=h10
    have hg:jv l' k to_:=⟨h0,h10⟩
    rw[if_pos hg] at hse
    rw[if_neg h10]
    have hbl:(cW l' k to_).length=n:=by unfold cW;rw[List.length_set];exact hl'
    have hol:=iT l' k to_
    have hoa:=(kG (l:=l') (i:=k) (to_:=to_) (by omega) (by omega) k).1
    rw[if_pos rfl] at hoa
    have hbo:(aJ (cW l' k to_) k).out=(aJ l' k).out:=by
     rw[lB (by omega)]
     split
     ·subst_vars;rfl
     rfl
    have hb0:1≤(aJ (cW l' k to_) k).out.length:=by rw[hbo];exact h0
    refine oI (L:=cW l' k to_) (k:=k) (by omega) fc fun X hs a hA=>?_
    have hhl:hs.length=n:=hA.len.trans hbl
    have hhd:=hA.hd
    have hI:=hA.i64
    refine dD (fun w h=>eK h (xs:=(aJ (cW l' k to_) k).out) (A:=a.Ao) (c:=a.co) fc) fun hcap=>?_
    have hd1:((aJ (cW l' k to_) k).out.drop 1).length=(aJ (cW l' k to_) k).out.length - 1:=List.length_drop
    refine ax (ap ?_)
    refine aL<|ac<|aa<|rn 4 [0,3,5,6,12,13,49,52] rfl<|af (a8 (fun w hw=>(SF.hmc (SF.own (xs:=hs) (A:=A) (c:=c) hhl fc) hkn hhd) w hw 3 _ rfl) rfl rfl a5) rfl rfl ?_
    refine af (mo (k:=((aJ (cW l' k to_) k).out.drop 1).length) ah aI ⟨by omega,by omega⟩ hd1.symm rfl rfl rfl rfl) rfl rfl ?_
    refine rn 2 [0,3,5,6,12,13,54,56] rfl<|ag (kZ (α:=ec) (A:=A) (c:=c) (m:=n) (f:=3) (us:= [.slice (fB a.Ao 1 a.co 1) ((aJ (cW l' k to_) k).out.drop 1).length (a.co - 1)]) (hZ ⟨a.Af,a.cf,a.Ab,a.cb,a.Ai,a.ci,fB a.Ao 1 a.co 1,a.co - 1⟩ (oA (aJ (cW l' k to_) k))) default rfl fc hkn (m9 hI) bV rfl rfl rfl rfl rfl rfl (by rw[hhd];rfl) rfl) rfl rfl (fun _ _=>?_)
    refine ae<|aa<|rn 1 [0,5,6,12,13,57] rfl<|af (bH rfl rfl rfl (by omega)) rfl rfl<|rn 1 [0,3,5,6,12,13] rfl<|bE (aK ?_)
    have hq3:(bJ l k).2+q+((dN (gg l' k to_) k to_).2+1)=(bJ l (k+1)).2:=by rw[hse] at hq2;exact hq2
    refine iQ (gg l' k to_,q+1) (⟨⟨⟨hol.trans hl',nD (by omega) (by omega) hg hR'⟩,by rw[hse] at hq1;exact hq1⟩,by show (bJ l k).2+(q+1)+(dN (gg l' k to_) k to_).2=_;omega⟩) (by show (aJ (gg l' k to_) k).out.length<_;rw[hoa,List.length_drop];omega) ⟨rfl,rfl,rfl,rfl,rfl,rfl,trivial⟩ (fun w h=>(hA.back _ ⟨a.Af,a.cf,a.Ab,a.cb,a.Ai,a.ci,fB a.Ao 1 a.co 1,a.co - 1⟩ (oA (aJ (cW l' k to_) k)) _ _ ((pR hb0 (h.msub (.s fc .r))).msub (.s fc (.s fc (.s fc (.s fc (.s fc (.s fc .r)))))))).msub ms)
   have h10:(aJ l' to_).inn.length=10:=h10
   have hg:¬jv l' k to_:=fun h=>h.2 h10
   rw[if_neg hg] at hse
   rw[hse] at hq1 hq2
   have hq2:(bJ l k).2+q+0=(bJ l (k+1)).2:=hq2
   have hq1:l'=(bJ l (k+1)).1:=hq1
   rw[if_pos h10,hq1,show (bJ l k).2+q=(bJ l (k+1)).2 from by omega]
   refine bN (aM (aM (cc (aK (ap ?_)))))
   refine aa<|af (bH rfl rfl rfl (by omega)) rfl rfl<|rn 1 [0,3,12,13] rfl<|br (k+1) (by show k+1≤_;omega) (by show _ - _<_ - _;omega) ⟨rfl,rfl,rfl,rfl,trivial⟩ me
  have h0:¬0<(aJ l' k).out.length:=by have:=of_decide_eq_false h0;omega
  have hg:¬jv l' k to_:=fun h=>h0 h.1
  rw[if_neg hg] at hse
  rw[hse] at hq1 hq2
  have hq2:(bJ l k).2+q+0=(bJ l (k+1)).2:=hq2
  have hq1:l'=(bJ l (k+1)).1:=hq1
  rw[show (bJ l k).2+q=(bJ l (k+1)).2 from by omega]
  refine rn 10 [0,3,5,6,12,13,48] rfl<|ae<|dg rfl<|bN (aM (aM (cc (aK (ap ?_)))))
  refine aa<|af (bH rfl rfl rfl (by omega)) rfl rfl<|rn 1 [0,3,12,13] rfl<|br (k+1) (by show k+1≤_;omega) (by show _ - _<_ - _;omega) ⟨rfl,rfl,rfl,rfl,trivial⟩ (fun w h=>by rw[←hq1];exact(hA.same (by omega) (h.msub (.s fc (.s fc (.s fc (.s fc (.s fc (.s fc .r)))))))).msub ms)
 obtain rfl:k=n:=by omega
 refine bN (aM (aM (cc (ap ?_))))
 refine ac<|aa<|rn 2 [2] rfl<|ae<|au<|aA Tryz.results92 (aq rfl) ?_
 intro w hw
 have e1:iw l=bJ l k:=by unfold iw;rw[hl]
 exact⟨(),trivial,by rw[e1],by rw[e1];exact hw.msub ms⟩
end
end
section
def mr (fs:List aC) (l:List aD):List aD×Nat:=if cz fs l=0 then iw l else ([],0)
def ej (fs:List aC) (l:List aD) (k:Int):Int:=if cz fs l=0∧(k<0∨10000<k) then 3 else cz fs l
def lP (fs:List aC) (l:List aD) (k:Int):List aD:=l.map fun m=>(eo fs m k).1
def kL (fs:List aC) (l:List aD) (k:Int):List aD:=if ej fs l k=0 then (iw (lP fs l k)).1 else []
def eF (fs:List aC) (l:List aD) (i z:Int):Int:=if cz fs l=0∧(i<0∨(l.length:Int)≤i∨cu z=false) then 3 else cz fs l
def fh (fs:List aC) (l:List aD) (i z:Int):Int:=if eF fs l i z≠0 then eF fs l i z else if (aJ l i.toNat).inn.length=10 then 7 else 0
def lr (fs:List aC) (l:List aD) (i z:Int):List aD:=if fh fs l i z=0 then l.set i.toNat (eO (aJ l i.toNat) z) else []
theorem mq (l:List aD):(iw l).1.length=l.length:=(wQ (fs:= []) l).1.len
theorem rc {fs:List aC} {l:List aD} {k:Int} (h:ej fs l k=0):cz fs l=0∧0≤k∧k≤10000:=by
 unfold ej at h
 split at h
 ·cases h
 rename_i h2
 exact⟨h,by omega,by omega⟩
theorem sZ {fs:List aC} {l:List aD} {i z:Int} (h:eF fs l i z=0):cz fs l=0∧(0≤i∧i<l.length)∧cu z=true:=by
 unfold eF at h
 split at h
 ·cases h
 rename_i h2
 refine⟨h,⟨by omega,by omega⟩,?_⟩
 cases hz:cu z with
 | true=>rfl
 | false=>exact absurd ⟨h,.inr (.inr hz)⟩ h2
theorem qt {fs:List aC} {l:List aD} {k:Int} (hW:mz fs l) (hk:0≤k):∀m∈lP fs l k,cI fs m:=fun m hm=>by
 obtain⟨x,hx,rfl⟩:=List.mem_map.1 hm
 exact(og hW.f x k (hW.r x hx) hk).right
theorem iR (fs:List aC) (l:List aD) (k:Int):(lP fs l k).length=l.length:=List.length_map ..
set_option maxRecDepth 100000 in
set_option maxHeartbeats 2000000 in
theorem rI (Ap Aw:Option Addr) (cp cw:Nat) (fs:List aC) (l:List aD) (r:List aD×Nat) (hr:mr fs l=r) (w:World) (hs:Sl w (.slice Ap fs.length cp) fs) (hl:Sl w (.slice Aw l.length cw) l) (hfit:kc l) :
  Calls Tryz.prog 40 #[.agg #[.slice Ap fs.length cp],.agg #[.slice Aw l.length cw]] w fun e w'=> ∃g:Option Addr×Nat,True∧e= .returned (.tuple #[.agg #[.slice g.1 r.1.length g.2],.int .i64 (r.2:Int),.int .i64 (cz fs l)])∧Cw w.heap.size w [aj (.slice g.1 r.1.length g.2) r.1] w':=by
 refine enter Tryz.func40 rfl Tryz.ntmps40 rfl ?_
 refine ac<|aa<|ag (bF rfl rfl rfl) rfl rfl (fun g1 _=>?_)
 refine ag (bF rfl rfl rfl) rfl rfl (fun g2 _=>?_)
 refine ag (aZ bS rfl rfl) rfl rfl (fun g3 _=>?_)
 refine rn 2 [2,3,4] rfl<|ae<|ac<|ac<|aa<|af (aQ (vs:= [_]) fc cE cg rfl rfl (by rfl) rfl) rfl rfl ?_
 refine af (aQ (vs:= [_]) fc bT aU rfl rfl (by rfl) rfl) rfl rfl ?_
 refine ag (bK rfl rfl rfl xH (fun w hw=>jQ Ap Aw cp cw fs l w (hw.ro hs) (hw.ro hl) hfit)) rfl rfl (fun _ _=>?_)
 refine rn 1 [3,4,7] rfl<|ae<|ac<|aa<|rn 2 [3,4,7,14] rfl<|ae<|b9 rfl (fun hp=>?_) (fun hp=>?_)
 ·have hp:¬cz fs l=0:=hp
  have e:r=([],0):=by rw[←hr];unfold mr;rw[if_neg hp]
  subst e
  refine ac<|aa<|af (cT (cs:= [_]) nA bS rfl rfl (by rfl)) rfl rfl ?_
  refine rn 1 [4,15,16] rfl<|ag (aH _ fc aU rfl rfl rfl rfl rfl (by rfl) rfl (by rfl)) rfl rfl (fun _ _=>?_)
  refine rn 2 [4,5,6] rfl<|ae<|au (ak ?_)
  refine vt Tryz.results40 (dp (cs:= [_]) fc bT aU rfl) (aq rfl) (aq rfl) ?_
  intro w hw
  exact⟨(none,0),trivial,rfl,(Cw.nilO aD hw).msub ms⟩
 have hp:cz fs l=0:=hp
 have hW:=km hp
 have e:iw l=r:=by rw[←hr];unfold mr;rw[if_pos hp]
 have hrl:r.1.length=l.length:=by rw[←e];exact mq l
 refine ax (ap ?_)
 refine ac<|aa<|af (aQ (vs:= [_]) fc bT aU rfl rfl (by rfl) rfl) rfl rfl ?_
 refine ag (cO rfl rfl rfl Tryz.call91 (fun w hw=>sP Aw cw fs l w (hw.ro hl) hW)) rfl rfl (fun⟨gx,A,c⟩ _=>?_)
 try dsimp only
 refine rn 1 [4,8] rfl<|ae<|ac<|aa<|rn 1 [4,8,19] rfl<|ag (bC rfl rfl rfl Tryz.call92 (fun w hw=>tI gx l.length c A fs l rfl hW.r ⟨hW.n0,hW.n4⟩ r e w (hw.msub (.s fc (.s fc .r))))) rfl rfl (fun _ _=>?_)
 refine rn 1 [4,8,9] rfl<|ae<|ac<|aa<|rn 3 [4,9,23] rfl<|af (aQ (vs:= [_]) fc bT aU rfl rfl (by rfl) rfl) rfl rfl ?_
 refine rn 1 [4,24,25] rfl<|ag (aH _ fc aU rfl rfl rfl rfl rfl (by rfl) rfl (by rfl)) rfl rfl (fun _ _=>?_)
 refine rn 2 [4,5,6] rfl<|ae<|au<|vt Tryz.results40 (dp (cs:= [_]) fc bT aU rfl) (aq rfl) (aq rfl) ?_
 intro w hw
 refine⟨(A,c),trivial,?_,?_⟩
 ·rw[hrl,hp]
 rw[hrl];exact hw.msub ms
set_option maxRecDepth 100000 in
set_option maxHeartbeats 4000000 in
theorem rF (Ap Aw:Option Addr) (cp cw:Nat) (fs:List aC) (l:List aD) (k:Int) (r:List aD) (hr:kL fs l k=r) (w:World) (hs:Sl w (.slice Ap fs.length cp) fs) (hl:Sl w (.slice Aw l.length cw) l) (hfit:kc l) :
  Calls Tryz.prog 41 #[.agg #[.slice Ap fs.length cp],.agg #[.slice Aw l.length cw],.int .i64 k] w fun e w'=> ∃g:Option Addr×Nat,True∧e= .returned (.tuple #[.agg #[.slice g.1 r.length g.2],.int .i64 (ej fs l k)])∧Cw w.heap.size w [aj (.slice g.1 r.length g.2) r] w':=by
 have bl:=bO hl
 refine enter Tryz.func41 rfl Tryz.ntmps41 rfl ?_
 refine ac<|aa<|ag (bF rfl rfl rfl) rfl rfl (fun g1 _=>?_)
 refine ag (bF rfl rfl rfl) rfl rfl (fun g2 _=>?_)
 refine ag (aZ bS rfl rfl) rfl rfl (fun g3 _=>?_)
 refine rn 1 [2,3,4,6] rfl<|ae<|ac<|aa<|af (aQ (vs:= [_]) fc cE cg rfl rfl (by rfl) rfl) rfl rfl ?_
 refine af (aQ (vs:= [_]) fc bT aU rfl rfl (by rfl) rfl) rfl rfl ?_
 refine ag (bK rfl rfl rfl xH (fun w hw=>jQ Ap Aw cp cw fs l w (hw.ro hs) (hw.ro hl) hfit)) rfl rfl (fun _ _=>?_)
 refine rn 1 [2,3,4,6,8] rfl<|ae<|dF (fun _:Unit=>True) (fun _=> [(2,.int .i64 k),(3,.pointer (some ⟨g1,0,none⟩)),(4,.pointer (some ⟨g2,0,none⟩)),(6,.pointer (some ⟨g3,0,none⟩)),(8,.int .i64 (ej fs l k))]) (fun _=> [am g1 [.slice Ap fs.length cp] 24,am g2 [.slice Aw l.length cw] 67,am g3 [.slice none 0 0] 67]) ?_ ?_
 ·refine ac<|aa<|rn 3 [2,3,4,6,8,19] rfl<|gU 7 rfl [(2,_),(3,_),(4,_),(6,_),(8,_)] [(26,.bool (decide (cz fs l=0∧(k<0∨10000<k))))] ⟨rfl,rfl,rfl,rfl,rfl,trivial⟩ (fun K=>?_) ?_
  ·refine bw (t:=19) rfl (fun q1=>?_) (fun q1=>?_)
   ·have q1:=of_decide_eq_true q1
    refine rn 3 [2,3,4,6,8,19,22] rfl<|bw (t:=22) rfl (fun q2=>?_) (fun q2=>?_)
    ·have q2:=of_decide_eq_true q2
     refine rn 4 [2,3,4,6,8,26] rfl<|bA (t:=26) (v':= .bool (decide (cz fs l=0∧(k<0∨10000<k)))) rfl (congrArg Value.bool (decide_eq_true ⟨q1,.inl q2⟩).symm) ?_
     exact dL K ⟨rfl,rfl,rfl,rfl,rfl,rfl,trivial⟩
    have q2:=of_decide_eq_false q2
    refine rn 4 [2,3,4,6,8,26] rfl<|bA (t:=26) (v':= .bool (decide (cz fs l=0∧(k<0∨10000<k)))) rfl (congrArg Value.bool (decide_eq_decide.2 ⟨fun h=>⟨q1,.inr h⟩,fun h=>h.2.resolve_left q2⟩)) ?_
    exact dL K ⟨rfl,rfl,rfl,rfl,rfl,rfl,trivial⟩
   have q1:=of_decide_eq_false q1
   refine rn 7 [2,3,4,6,8,26] rfl<|bA (t:=26) (v':= .bool (decide (cz fs l=0∧(k<0∨10000<k)))) rfl (congrArg Value.bool (decide_eq_false (fun h=>q1 h.1)).symm) ?_
   exact dL K ⟨rfl,rfl,rfl,rfl,rfl,rfl,trivial⟩
  refine ae<|aw rfl (fun q=>?_) (fun q=>?_)
  ·refine aa<|rn 1 [2,3,4,6,8] rfl<|bA (t:=8) (v':= .int .i64 (ej fs l k)) rfl (by unfold ej;rw[if_pos q]) ?_
   refine fa () (trivial) ⟨rfl,rfl,rfl,rfl,rfl,trivial⟩ me
  refine cP (t:=8) (v':= .int .i64 (ej fs l k)) rfl (by unfold ej;rw[if_neg q]) ?_
  refine ax<|aY () (trivial) ⟨rfl,rfl,rfl,rfl,rfl,trivial⟩ me
 rintro⟨⟩ _
 try dsimp only
 refine ac<|ac<|aa<|rn 2 [2,3,4,6,8,28] rfl<|ae<|b9 rfl (fun hp=>?_) (fun hp=>?_)
 ·have hp:¬ej fs l k=0:=hp
  have e:r= []:=by rw[←hr];unfold kL;rw[if_neg hp]
  subst e
  refine ac<|aa<|af (cT (cs:= [_]) nA bS rfl rfl (by rfl)) rfl rfl ?_
  refine rn 1 [6,29,30] rfl<|ag (aH _ fc aU rfl rfl rfl rfl rfl (by rfl) rfl (by rfl)) rfl rfl (fun _ _=>?_)
  refine rn 1 [6,7] rfl<|ae<|au (ak ?_)
  refine bD Tryz.results41 (dp (cs:= [_]) fc bT aU rfl) (aq rfl) ?_
  intro w hw
  exact⟨(none,0),trivial,rfl,(Cw.nilO aD hw).msub ms⟩
 have hp:ej fs l k=0:=hp
 obtain⟨h0,hk⟩:=rc hp
 have hW:=km h0
 have h4:=hW.n4
 obtain⟨q,hq⟩:∃q,iw (lP fs l k)=q:=⟨_,rfl⟩
 have e:q.1=r:=by rw[←hr,←hq];unfold kL;rw[if_pos hp]
 have hql:q.1.length=l.length:=by rw[←hq,mq,iR]
 refine ax (ap ?_)
 refine ac<|aa<|af (cT (cs:= [_]) yl Gk rfl rfl (by rfl)) rfl rfl ?_
 refine ag (bF rfl rfl rfl) rfl rfl (fun g4 _=>?_)
 refine rn 1 [2,3,4,6,9] rfl<|ae<|ac<|ac<|aa<|rn 1 [2,3,6,9,33] rfl<|af (ai fc cM rfl rfl (by rfl)) rfl rfl ?_
 refine af (aN bn rfl rfl) rfl rfl<|rn 1 [2,3,6,9,34,35,36] rfl<|ae<|dO (fun w h=>Cw.nilO aD h) ?_
 refine aL (b8 (fun g:Nat×Option Addr×Nat=>g.1≤l.length) (fun g=>l.length - g.1) (fun g=> [(2,.int .i64 k),(3,.pointer (some ⟨g1,0,none⟩)),(6,.pointer (some ⟨g3,0,none⟩)),(9,.pointer (some ⟨g4,0,none⟩)),(34,.slice Aw l.length cw),(35,.int .i64 (l.length:Int)),(36,.int .i64 (g.1:Int))]) (fun g=> [am g4 [.slice g.2.1 (((l.take g.1).map fun m=>(eo fs m k).1)).length g.2.2] 124,aj (.slice g.2.1 (((l.take g.1).map fun m=>(eo fs m k).1)).length g.2.2) (((l.take g.1).map fun m=>(eo fs m k).1)),am g1 [.slice Ap fs.length cp] 24,am g3 [.slice none 0 0] 67]) (0,none,0) (Nat.zero_le _) ⟨rfl,rfl,rfl,rfl,rfl,rfl,rfl,trivial⟩ me ?_)
 rintro⟨j,A',c'⟩ hj
 try dsimp only
 have hj:j≤l.length:=hj
 have htl:((l.take j).map fun m=>(eo fs m k).1).length=j:=by rw[List.length_map,List.length_take];omega
 refine ac<|aa<|rn 1 [2,3,6,9,34,35,36,37] rfl<|ae<|ac<|aw rfl (fun hlt=>?_) (fun hlt=>?_)
 ·have hjl:j<l.length:=by omega
  obtain⟨a,hm,hcell⟩:=hl.mc hjl
  have hRj:=hW.r _ (fG hjl)
  obtain⟨x,hx⟩:∃x,eo fs (aJ l j) k=x:=⟨_,rfl⟩
  have hI:aX x.1.status∧aX x.1.trap:=by rw[←hx];exact kV (og hW.f _ k hRj hk.1).right
  have htk:((l.take (j+1)).map fun m=>(eo fs m k).1)=((l.take j).map fun m=>(eo fs m k).1)++ [x.1]:=by rw[oY hjl,List.map_append,←hx];rfl
  refine ax (ap ?_)
  refine ac<|aL<|ac<|aa<|af (aO (k:=j) bn aF (.ro hl) (by omega) rfl rfl rfl) rfl rfl<|af (cr (hcell _) rfl rfl bd aF) rfl rfl<|ag (aZ bW rfl rfl) rfl rfl (fun g5 _=>?_)
  refine ag (aH _ fc aF rfl rfl rfl rfl rfl (by rfl) rfl (by rfl)) rfl rfl (fun _ _=>?_)
  refine ae<|ac<|aa<|af (aQ (vs:= [_]) fc cE cg rfl rfl (by rfl) rfl) rfl rfl ?_
  refine af (aQ (vs:= [_,_,_,_,_,_]) fc bd aF rfl rfl (by rfl) rfl) rfl rfl ?_
  refine rn 1 [2,3,6,9,34,35,36,41,42,43] rfl<|ag (cO rfl rfl rfl Tryz.call84 (fun w hw=>AB Ap cp fs a (aJ l j) k x hx w (hw.ro hs) (hm.ro hw) hW.f hRj hk)) rfl rfl (fun ga _=>?_)
  refine rn 3 [2,3,6,9,34,35,36,45,46] rfl<|ag (aZ bW rfl rfl) rfl rfl (fun g6 _=>?_)
  refine ag (aH _ fc aF rfl rfl rfl rfl rfl (by rfl) rfl (by rfl)) rfl rfl (fun _ _=>?_)
  refine rn 1 [2,3,6,9,12,34,35,36] rfl<|ae<|e8 (.still 0 (.still 1 (.still 2 (.still 3 (.still 4 (.still 5 (.still 6 (.pick 7 (.pick 8 (.still 9 (.still 10 (.still 11 (.pick 12 .done .stop)))) .stop) .stop)))))))) [12] rfl (by kernel_rfl) (by kernel_rfl) [am g4 [.slice A' ((l.take j).map fun m=>(eo fs m k).1).length c'] 124,am g6 [.slice ga.Af x.1.frames.length ga.cf,.slice ga.Ab x.1.blocks.length ga.cb,.slice ga.Ai x.1.inn.length ga.ci,.slice ga.Ao x.1.out.length ga.co,.int .i64 x.1.status,.int .i64 x.1.trap] 29] ?_
  refine aV ha 5 [2,3,6,9,12,34,35,36,47,51] rfl<|an rfl (ai fc cM rfl rfl (by rfl)) rfl rfl ha ?_
  refine an rfl (aQ (vs:= [_,_,_,_,_,_]) fc bd aF rfl rfl (by rfl) rfl) rfl rfl ha ?_
  refine aB rfl (bh (cs:= [_,_,_,_,_,_]) bn aF bW rfl rfl rfl rfl rfl) rfl rfl (.inr fun _=>ha) (fun g7 _=>?_) ay
  refine aB rfl (dm (α:=aD) (bytes:=112) x.1 [aj (.slice ga.Af x.1.frames.length ga.cf) x.1.frames,aj (.slice ga.Ab x.1.blocks.length ga.cb) x.1.blocks,aj (.slice ga.Ai x.1.inn.length ga.ci) x.1.inn,aj (.slice ga.Ao x.1.out.length ga.co) x.1.out] htk bn (bM kR) rfl (sK fc fc fc fc fc fc) (m8 hI) (by omega) (by omega) rfl rfl rfl) rfl rfl (.inr fun _=>ha) (fun⟨A5,c5⟩ _=>?_) ay
  try dsimp only
  refine aV ha 3 [2,3,6,9,34,35,36,55,58] rfl<|aB rfl (aH _ fc zz rfl rfl rfl rfl rfl (by rfl) rfl (by rfl)) rfl rfl (.inl rfl) (fun _ _=>?_) ay
  refine ck (aK (ap ?_))
  refine aa<|af (bH rfl rfl rfl (by omega)) rfl rfl<|rn 1 [2,3,6,9,34,35,36] rfl<|br (j+1,A5,c5) (by show j+1≤_;omega) (by show _ - _<_ - _;omega) ⟨rfl,rfl,rfl,rfl,rfl,rfl,rfl,trivial⟩ me
 obtain rfl:j=l.length:=by omega
 have e2:((l.take l.length).map fun m=>(eo fs m k).1)=lP fs l k:=by rw[List.take_length];rfl
 rw[e2,iR]
 refine bN (aM (aM (cc (ap ?_))))
 refine ac<|aa<|rn 1 [6,9,60] rfl<|ag (bC rfl rfl rfl Tryz.call92 (fun w hw=>tI g4 l.length c' A' fs (lP fs l k) (iR fs l k) (qt hW hk.1) ⟨hW.n0,hW.n4⟩ q hq w (hw.msub (.s fc (.s fc .r))))) rfl rfl (fun _ _=>?_)
 refine ae<|ac<|aa<|rn 3 [6,64] rfl<|af (aQ (vs:= [_]) fc bT aU rfl rfl (by rfl) rfl) rfl rfl ?_
 refine ag (aH _ fc aU rfl rfl rfl rfl rfl (by rfl) rfl (by rfl)) rfl rfl (fun _ _=>?_)
 refine rn 1 [6,7] rfl<|ae<|au<|bD Tryz.results41 (dp (cs:= [_]) fc bT aU rfl) (aq rfl) ?_
 intro w hw
 refine⟨(A',c'),trivial,?_,?_⟩
 ·rw[←e,hql,hp]
 rw[←e,hql];exact hw.msub ms
end
section
theorem wd {fs:List aC} {l:List aD} {i z:Int} (q1:cz fs l=0) (q2:¬i<0) (q3:¬(l.length:Int)≤i):(!cu z)=decide (cz fs l=0∧(i<0∨(l.length:Int)≤i∨cu z=false)):=by
 cases hi:cu z with
 | false=>exact(decide_eq_true ⟨q1,.inr (.inr rfl)⟩).symm
 | true=>exact(decide_eq_false (fun h=>h.2.elim q2 fun h=>h.elim q3 fun h=>by cases h)).symm
set_option maxRecDepth 100000 in
set_option maxHeartbeats 4000000 in
theorem rG (Ap Aw:Option Addr) (cp cw:Nat) (fs:List aC) (l:List aD) (i z:Int) (hz:aX z) (r:List aD) (hr:lr fs l i z=r) (w:World) (hs:Sl w (.slice Ap fs.length cp) fs) (hl:Sl w (.slice Aw l.length cw) l) (hfit:kc l) :
  Calls Tryz.prog 42 #[.agg #[.slice Ap fs.length cp],.agg #[.slice Aw l.length cw],.int .i64 i,.int .i64 z] w fun e w'=> ∃g:Option Addr×Nat,True∧e= .returned (.tuple #[.agg #[.slice g.1 r.length g.2],.int .i64 (fh fs l i z)])∧Cw w.heap.size w [aj (.slice g.1 r.length g.2) r] w':=by
 have bl:=bO hl
 refine enter Tryz.func42 rfl Tryz.ntmps42 rfl ?_
 refine ac<|aa<|ag (bF rfl rfl rfl) rfl rfl (fun g1 _=>?_)
 refine ag (bF rfl rfl rfl) rfl rfl (fun g2 _=>?_)
 refine ag (aZ bS rfl rfl) rfl rfl (fun g3 _=>?_)
 refine rn 1 [2,3,4,5,8] rfl<|ae<|ac<|aa<|af (aQ (vs:= [_]) fc cE cg rfl rfl (by rfl) rfl) rfl rfl ?_
 refine af (aQ (vs:= [_]) fc bT aU rfl rfl (by rfl) rfl) rfl rfl ?_
 refine ag (bK rfl rfl rfl xH (fun w hw=>jQ Ap Aw cp cw fs l w (hw.ro hs) (hw.ro hl) hfit)) rfl rfl (fun _ _=>?_)
 refine rn 1 [2,3,5,8,10] rfl<|ae<|dF (fun _:Unit=>True) (fun _=> [(2,.int .i64 i),(3,.int .i64 z),(5,.pointer (some ⟨g2,0,none⟩)),(8,.pointer (some ⟨g3,0,none⟩)),(10,.int .i64 (eF fs l i z))]) (fun _=> [am g1 [.slice Ap fs.length cp] 24,am g2 [.slice Aw l.length cw] 67,am g3 [.slice none 0 0] 67]) ?_ ?_
 ·refine ac<|aa<|rn 3 [2,3,5,8,10,17] rfl<|gU 15 rfl [(2,_),(3,_),(5,_),(8,_),(10,_)] [(32,.bool (decide (cz fs l=0∧(i<0∨(l.length:Int)≤i∨cu z=false))))] ⟨rfl,rfl,rfl,rfl,rfl,trivial⟩ (fun K=>?_) ?_
  ·refine bw (t:=17) rfl (fun q1=>?_) (fun q1=>?_)
   ·have q1:=of_decide_eq_true q1
    refine rn 3 [2,3,5,8,10,17,20] rfl<|bw (t:=20) rfl (fun q2=>?_) (fun q2=>?_)
    ·have q2:=of_decide_eq_true q2
     refine rn 12 [2,3,5,8,10,32] rfl<|bA (t:=32) (v':= .bool (decide (cz fs l=0∧(i<0∨(l.length:Int)≤i∨cu z=false)))) rfl (congrArg Value.bool (decide_eq_true ⟨q1,.inl q2⟩).symm) ?_
     exact dL K ⟨rfl,rfl,rfl,rfl,rfl,rfl,trivial⟩
    have q2:=of_decide_eq_false q2
    refine rn 2 [2,3,5,8,10,17,20,21,22] rfl<|af (ai fc cM rfl rfl (by rfl)) rfl rfl ?_
    refine af (aN bn rfl rfl) rfl rfl<|rn 3 [2,3,5,8,10,17,27] rfl<|bw (t:=27) rfl (fun q3=>?_) (fun q3=>?_)
    ·have q3:(l.length:Int)≤i:=of_decide_eq_true q3
     refine rn 5 [2,3,5,8,10,32] rfl<|bA (t:=32) (v':= .bool (decide (cz fs l=0∧(i<0∨(l.length:Int)≤i∨cu z=false)))) rfl (congrArg Value.bool (decide_eq_true ⟨q1,.inr (.inl q3)⟩).symm) ?_
     exact dL K ⟨rfl,rfl,rfl,rfl,rfl,rfl,trivial⟩
    have q3:¬(l.length:Int)≤i:=of_decide_eq_false q3
    refine rn 1 [2,3,5,8,10,17,27,28] rfl<|ag (bK rfl rfl rfl Gf (fun w hw=>fe (m7 z w))) rfl rfl (fun _ _=>?_)
    refine rn 3 [2,3,5,8,10,32] rfl<|bA (t:=32) (v':= .bool (decide (cz fs l=0∧(i<0∨(l.length:Int)≤i∨cu z=false)))) rfl (congrArg Value.bool (wd q1 q2 q3)) ?_
    exact dL K ⟨rfl,rfl,rfl,rfl,rfl,rfl,trivial⟩
   have q1:=of_decide_eq_false q1
   refine rn 15 [2,3,5,8,10,32] rfl<|bA (t:=32) (v':= .bool (decide (cz fs l=0∧(i<0∨(l.length:Int)≤i∨cu z=false)))) rfl (congrArg Value.bool (decide_eq_false (fun h=>q1 h.1)).symm) ?_
   exact dL K ⟨rfl,rfl,rfl,rfl,rfl,rfl,trivial⟩
  refine ae<|aw rfl (fun q=>?_) (fun q=>?_)
  ·refine aa<|rn 1 [2,3,5,8,10] rfl<|bA (t:=10) (v':= .int .i64 (eF fs l i z)) rfl (by unfold eF;rw[if_pos q]) ?_
   refine fa () (trivial) ⟨rfl,rfl,rfl,rfl,rfl,trivial⟩ me
  refine cP (t:=10) (v':= .int .i64 (eF fs l i z)) rfl (by unfold eF;rw[if_neg q]) ?_
  refine ax<|aY () (trivial) ⟨rfl,rfl,rfl,rfl,rfl,trivial⟩ me
 rintro⟨⟩ _
 try dsimp only
 refine ac<|ac<|aa<|rn 2 [2,3,5,8,10,34] rfl<|ae<|b9 rfl (fun hp=>?_) (fun hp=>?_)
 ·have hp:¬eF fs l i z=0:=hp
  have he:fh fs l i z=eF fs l i z:=by unfold fh;rw[if_pos hp]
  have e:r= []:=by rw[←hr];unfold lr;rw[if_neg (by rw[he];exact hp)]
  subst e
  refine ac<|aa<|af (cT (cs:= [_]) nA bS rfl rfl (by rfl)) rfl rfl ?_
  refine rn 1 [8,35,36] rfl<|ag (aH _ fc aU rfl rfl rfl rfl rfl (by rfl) rfl (by rfl)) rfl rfl (fun _ _=>?_)
  refine rn 1 [8,9] rfl<|ae<|au (ak ?_)
  refine bD EW (dp (cs:= [_]) fc bT aU rfl) (aq rfl) ?_
  intro w hw
  exact⟨(none,0),trivial,by rw[he];rfl,(Cw.nilO aD hw).msub ms⟩
 have hp:eF fs l i z=0:=hp
 obtain⟨h0,hi,hzi⟩:=sZ hp
 have hW:=km h0
 obtain⟨k,rfl⟩:∃k:Nat,i=k:=⟨i.toNat,by omega⟩
 have hkl:k<l.length:=by omega
 refine ax (ap ?_)
 refine ac<|aa<|af (aQ (vs:= [_]) fc bT aU rfl rfl (by rfl) rfl) rfl rfl ?_
 refine ag (cO rfl rfl rfl Tryz.call91 (fun w hw=>sP Aw cw fs l w (hw.ro hl) hW)) rfl rfl (fun⟨gx,A,c⟩ _=>?_)
 try dsimp only
 refine rn 1 [2,3,8,11] rfl<|ae<|ac<|ac<|aa<|rn 3 [8,11,39,40,41] rfl<|ag (bC rfl rfl rfl Tryz.call94 (fun w hw=>se gx k l.length c A l z rfl hkl hz (hW.r _ (fG hkl)).ib w (hw.msub (.s fc (.s fc .r))))) rfl rfl (fun _ _=>?_)
 refine rn 1 [8,11,43] rfl<|ae<|cP (t:=43) (v':= .bool (decide ((aJ l k).inn.length=10))) rfl (by rw[Bool.not_not]) ?_
 refine aw rfl (fun h10=>?_) (fun h10=>?_)
 ·have h10:(aJ l k).inn.length=10:=h10
  have he:fh fs l k z=7:=by unfold fh;rw[if_neg (fun h=>h hp),if_pos (by rw[Int.toNat_natCast];exact h10)]
  have e:r= []:=by rw[←hr];unfold lr;rw[if_neg (by rw[he];decide)]
  subst e
  refine ac<|aa<|af (cT (cs:= [_]) nA bS rfl rfl (by rfl)) rfl rfl ?_
  refine ag (aH _ fc aU rfl rfl rfl rfl rfl (by rfl) rfl (by rfl)) rfl rfl (fun _ _=>?_)
  refine rn 1 [8,9] rfl<|ae<|au (ak ?_)
  refine bD EW (dp (cs:= [_]) fc bT aU rfl) (aq rfl) ?_
  intro w hw
  exact⟨(none,0),trivial,by rw[he];rfl,(Cw.nilO aD hw).msub ms⟩
 have h10:¬(aJ l k).inn.length=10:=h10
 have he:fh fs l k z=0:=by unfold fh;rw[if_neg (fun h=>h hp),if_neg (by rw[Int.toNat_natCast];exact h10)]
 have e:l.set k (eO (aJ l k) z)=r:=by rw[←hr];unfold lr;rw[if_pos he,Int.toNat_natCast]
 have hrl:r.length=l.length:=by rw[←e,List.length_set]
 rw[if_neg h10,e]
 refine ax (ap ?_)
 refine ac<|aa<|rn 3 [8,47] rfl<|af (aQ (vs:= [_]) fc bT aU rfl rfl (by rfl) rfl) rfl rfl ?_
 refine ag (aH _ fc aU rfl rfl rfl rfl rfl (by rfl) rfl (by rfl)) rfl rfl (fun _ _=>?_)
 refine rn 1 [8,9] rfl<|ae<|au<|bD EW (dp (cs:= [_]) fc bT aU rfl) (aq rfl) ?_
 intro w hw
 refine⟨(A,c),trivial,?_,?_⟩
 ·rw[hrl,he]
 rw[hrl];exact hw.msub ms
end
section
set_option maxRecDepth 100000 in
set_option maxHeartbeats 2000000 in
theorem nR (A1 A2:Option Addr) (n1 n2 c1 c2:Nat) (l1 l2:List aD) (w:World) (h1:bX w w.heap.size (.slice A1 n1 c1) l1) (h2:bX w w.heap.size (.slice A2 n2 c2) l2) (e1:l1.length=n1) (e2:l2.length=n2) :
  Calls Tryz.prog 52 #[.agg #[.slice A1 n1 c1],.agg #[.slice A2 n2 c2]] w fun e w'=>e= .returned (.bool (decide (l1=l2)))∧Below w.heap.size w w':=by
 subst e1 e2
 have b1:=bO h1
 refine enter Tryz.func52 rfl Tryz.ntmps52 rfl ?_
 refine ac<|aa<|ag (bF rfl rfl rfl) rfl rfl (fun g1 _=>?_)
 refine ag (bF rfl rfl rfl) rfl rfl (fun g2 _=>?_)
 refine rn 1 [2,3] rfl<|ae<|ac<|ac<|aa<|rn 1 [2,3,6] rfl<|af (ai fc cM rfl rfl (by rfl)) rfl rfl ?_
 refine af (aN bn rfl rfl) rfl rfl<|rn 1 [2,3,8,9] rfl<|af (ai fc cM rfl rfl (by rfl)) rfl rfl ?_
 refine af (aN bn rfl rfl) rfl rfl<|rn 1 [2,3,12] rfl<|ae<|b9 rfl (fun e6=>?_) (fun e6=>?_)
 ·refine ac<|aa<|rn 1 [4] rfl<|ae<|au (ak ?_)
  refine aA ET (aq rfl) ?_
  intro w hw
  exact⟨bt (by rw[decide_eq_false (fun h=>e6 (by rw[h]))]),hw.below⟩
 have e6:l1.length=l2.length:=by omega
 refine ax (ap ?_)
 refine ac<|ac<|aa<|rn 1 [2,3,5] rfl<|ae<|aL (b8 (fun i:Nat=>i≤l1.length∧l1.take i=l2.take i) (fun i=>l1.length - i) (fun i=> [(2,.pointer (some ⟨g1,0,none⟩)),(3,.pointer (some ⟨g2,0,none⟩)),(5,.int .i64 (i:Int))]) (fun _=> [am g1 [.slice A1 l1.length c1] 67,am g2 [.slice A2 l2.length c2] 67]) 0 (⟨Nat.zero_le _,rfl⟩) ⟨rfl,rfl,rfl,trivial⟩ me ?_)
 rintro i hi'
 obtain⟨hi,hj⟩:i≤l1.length∧l1.take i=l2.take i:=hi'
 refine ac<|ac<|aa<|rn 2 [2,3,5,13,14] rfl<|af (ai fc cM rfl rfl (by rfl)) rfl rfl ?_
 refine af (aN bn rfl rfl) rfl rfl<|rn 1 [2,3,5,17] rfl<|ae<|aw rfl (fun hlt=>?_) (fun hlt=>?_)
 ·have hil:i<l1.length:=by omega
  have hil2:i<l2.length:=by omega
  obtain⟨a,hm1,hc1⟩:=h1.mc hil
  obtain⟨b,hm2,hc2⟩:=h2.mc hil2
  refine ax (ap ?_)
  refine ac<|aL<|dF (fun _:Unit=>True) (fun _=> [(2,.pointer (some ⟨g1,0,none⟩)),(3,.pointer (some ⟨g2,0,none⟩)),(5,.int .i64 (i:Int)),(31,.bool (!decide (aJ l1 i=aJ l2 i)))]) (fun _=> [am g1 [.slice A1 l1.length c1] 67,am g2 [.slice A2 l2.length c2] 67]) ?_ ?_
  ·refine bQ (.still 0 (.still 1 (.still 2 (.still 3 (.still 4 (.still 5 (.still 6 (.still 7 (.still 8 (.still 9 (.pick 10 (.still 11 .done) .stop))))))))))) [] rfl (by kernel_rfl) (by kernel_rfl) ?_
   refine aV ha 1 [2,3,5,20] rfl<|an rfl (ai fc cM rfl rfl (by rfl)) rfl rfl ha ?_
   refine aV ha 1 [2,3,5,21,22] rfl<|an rfl (aO (k:=i) bn aF (.ro h1) (by omega) rfl rfl rfl) rfl rfl ha ?_
   refine an rfl (cr (hc1 _) rfl rfl bd aF) rfl rfl ha ?_
   refine aV ha 1 [2,3,5,24,25] rfl<|an rfl (ai fc cM rfl rfl (by rfl)) rfl rfl ha ?_
   refine aV ha 1 [2,3,5,24,26,27] rfl<|an rfl (aO (k:=i) bn aF (.ro h2) (by omega) rfl rfl rfl) rfl rfl ha ?_
   refine an rfl (cr (hc2 _) rfl rfl bd aF) rfl rfl ha ?_
   refine aB rfl (bK rfl rfl rfl Tryz.call53 (fun w hw=>s8 a b (aJ l1 i) (aJ l2 i) w (hm1.ro hw) (hm2.ro hw))) rfl rfl (.inr fun _=>ha) (fun _ _=>?_) ay
   refine aV ha 1 [2,3,5,31] rfl<|ck<|aY () (trivial) ⟨rfl,rfl,rfl,rfl,trivial⟩ me
  rintro⟨⟩ _
  try dsimp only
  refine cH rfl (fun f=>?_) (fun f=>?_)
  ·refine ac<|aa<|rn 1 [4] rfl<|ae<|au (aG (ak (ak (aG (ak ?_)))))
   refine aA ET (aq rfl) ?_
   intro w hw
   exact⟨bt (by rw[decide_eq_false (fun h=>jd f (by rw[h]))]),hw.below⟩
  have f:=it f
  refine ax (aK (ap ?_))
  refine aa<|rn 1 [2,3,18] rfl<|af (bH rfl rfl rfl (by omega)) rfl rfl<|rn 1 [2,3,5] rfl<|br (i+1) (⟨by show i+1≤_;omega,nn default hil hil2 hj f⟩) (by show _ - _<_ - _;omega) ⟨rfl,rfl,rfl,trivial⟩ me
 obtain rfl:i=l1.length:=by omega
 rw[List.take_length,e6,List.take_length] at hj
 refine bN (aM (aM (cc (ap ?_))))
 refine ac<|aa<|rn 1 [4] rfl<|ae<|au<|aA ET (aq rfl) ?_
 intro w hw
 exact⟨bt (by rw[decide_eq_true hj]),hw.below⟩
end
section
def rW (i:List Int) (s:Int):aD:=⟨[⟨0,0,[],[]⟩],[],i,[],s,0⟩
def iP:List aD:= [gX,gX]
def mb:List aD:= [rW [3] 0,rW [] 0]
def jH:List aD:= [rW [] 1,rW [9] 0]
def jl:List aD:= [rW [81] 0,rW [] 1]
set_option maxRecDepth 100000 in
theorem jq:cz dW iP=0∧fh dW iP 0 3=0∧lr dW iP 0 3=mb∧ej dW mb 50=0∧kL dW mb 50=jH∧ej dW jH 50=0∧kL dW jH 50=jl∧cz dW jl=0∧mr dW jl=(jl,0):=by
 refine⟨?_,?_,?_,?_,?_,?_,?_,?_,?_⟩ <;> kernel_rfl
theorem pg {a b:aD} (h1:a.frames=gX.frames) (h2:b.frames=gX.frames):kc [a,b]:=by
 refine⟨by show 2*112≤_;decide,fun m hm=>?_⟩
 have:m=a∨m=b:=by simpa using hm
 rcases this with rfl | rfl
 ·rw[h1];exact vU
 rw[h2];exact vU
theorem tW:kc iP:=pg rfl rfl
theorem tV:kc mb:=pg rfl rfl
theorem tU:kc jH:=pg rfl rfl
theorem Dw:kc jl:=pg rfl rfl
theorem m5:mb.length=2:=rfl
theorem iU:jH.length=2:=rfl
theorem k9:jl.length=2:=rfl
theorem tK:iP.length=2:=rfl
theorem CT:aJ jH 1=rW [9] 0:=rfl
theorem BG:aJ jl 0=rW [81] 0:=rfl
section
variable {A Aw:Option Addr} {c cw:Nat} {w:World}
theorem xK (A Aw:Option Addr) (c cw:Nat) (w:World) (hs:Sl w (.slice A 2 c) dW) (hl:Sl w (.slice Aw 2 cw) iP) :
  Calls Tryz.prog 49 #[.agg #[.slice A 2 c],.agg #[.slice Aw 2 cw]] w fun e w'=>e= .returned (.int .i64 0)∧Below w.heap.size w w':=by
 have:=jQ A Aw c cw dW iP w hs hl tW
 rw[jq.1] at this
 exact this
theorem zJ (A Aw:Option Addr) (c cw:Nat) (w:World) (hs:Sl w (.slice A 2 c) dW) (hl:Sl w (.slice Aw 2 cw) iP) :
  Calls Tryz.prog 42 #[.agg #[.slice A 2 c],.agg #[.slice Aw 2 cw],.int .i64 0,.int .i64 3] w fun e w'=> ∃g:Option Addr×Nat,True∧e= .returned (.tuple #[.agg #[.slice g.1 2 g.2],.int .i64 0])∧Cw w.heap.size w [aj (.slice g.1 2 g.2) mb] w':=by
 have:=rG A Aw c cw dW iP 0 3 (by decide) mb jq.2.2.1 w hs hl tW
 rw[jq.2.1] at this
 exact this
theorem ko {l r:List aD} (h2:l.length=2) (h3:r.length=2) (hf:kc l) (he:ej dW l 50=0) (hr:kL dW l 50=r) (A Aw:Option Addr) (c cw:Nat) (w:World) (hs:Sl w (.slice A 2 c) dW) (hl:Sl w (.slice Aw 2 cw) l) :
  Calls Tryz.prog 41 #[.agg #[.slice A 2 c],.agg #[.slice Aw 2 cw],.int .i64 50] w fun e w'=> ∃g:Option Addr×Nat,True∧e= .returned (.tuple #[.agg #[.slice g.1 2 g.2],.int .i64 0])∧Cw w.heap.size w [aj (.slice g.1 2 g.2) r] w':=by
 have:=rF A Aw c cw dW l 50 r hr w hs (by rw[h2];exact hl) hf
 rw[he,h2,h3] at this
 exact this
theorem pF (A Aw:Option Addr) (c cw:Nat) (w:World) (hs:Sl w (.slice A 2 c) dW) (hl:Sl w (.slice Aw 2 cw) jl) :
  Calls Tryz.prog 40 #[.agg #[.slice A 2 c],.agg #[.slice Aw 2 cw]] w fun e w'=> ∃g:Option Addr×Nat,True∧e= .returned (.tuple #[.agg #[.slice g.1 2 g.2],.int .i64 0,.int .i64 0])∧Cw w.heap.size w [aj (.slice g.1 2 g.2) jl] w':=by
 obtain⟨_,_,_,_,_,_,_,f8,f9⟩:=jq
 have:=rI A Aw c cw dW jl (jl,0) f9 w hs hl Dw
 rw[f8] at this
 exact this
end
set_option maxRecDepth 100000 in
set_option maxHeartbeats 4000000 in
theorem tw (w:World):Calls Tryz.prog 96 #[] w fun e w'=> ∃g:Option Addr×Nat,True∧e= .returned (.agg #[.slice g.1 2 g.2])∧Cw w.heap.size w [aj (.slice g.1 2 g.2) iP] w':=by
 obtain⟨f1,f2,f3,f4,f5,f6,f7,f8,f9⟩:=wR
 refine enter Tryz.func96 rfl Tryz.ntmps96 rfl ?_
 refine ac<|aa<|ag (aZ bS rfl rfl) rfl rfl (fun g1 _=>?_)
 refine ae<|ac<|aa<|ag (cO rfl rfl rfl kh (fun w hw=>fK w)) rfl rfl (fun gp _=>?_)
 refine ag (cO rfl rfl rfl Tryz.call22 (fun w hw=>py f6 f7 rfl _ _ w (SF.at_ (SF.own rfl fc) hw))) rfl rfl (fun a1 _=>?_)
 refine rn 3 [0,8,9] rfl<|ag (aZ bW rfl rfl) rfl rfl (fun g2 _=>?_)
 refine ag (aH _ fc aF rfl rfl rfl rfl rfl (by rfl) rfl (by rfl)) rfl rfl (fun _ _=>?_)
 refine rn 1 [0,1] rfl<|ae<|ac<|aa<|ag (cO rfl rfl rfl kh (fun w hw=>fK w)) rfl rfl (fun gq _=>?_)
 refine ag (cO rfl rfl rfl Tryz.call22 (fun w hw=>py f6 f7 rfl _ _ w (SF.at_ (SF.own rfl fc) hw))) rfl rfl (fun a2 _=>?_)
 refine rn 3 [0,1,13,14] rfl<|ag (aZ bW rfl rfl) rfl rfl (fun g3 _=>?_)
 refine ag (aH _ fc aF rfl rfl rfl rfl rfl (by rfl) rfl (by rfl)) rfl rfl (fun _ _=>?_)
 refine rn 1 [0,1,3] rfl<|ae<|ac<|aa<|af (aQ (vs:= [_,_,_,_,_,_]) fc bd aF rfl rfl (by rfl) rfl) rfl rfl ?_
 refine af (aQ (vs:= [_,_,_,_,_,_]) fc bd aF rfl rfl (by rfl) rfl) rfl rfl ?_
 refine ag (bh (cs:= [_,_,_,_,_,_,_,_,_,_,_,_]) bn aF bW rfl rfl rfl rfl rfl) rfl rfl (fun g4 _=>?_)
 refine af (cT (cs:= [_]) nA bS rfl rfl (by rfl)) rfl rfl ?_
 refine ag (aH _ fc aU rfl rfl rfl rfl rfl (by rfl) rfl (by rfl)) rfl rfl (fun _ _=>?_)
 refine ae<|au<|aA Tryz.results96 (dp (cs:= [_]) fc bT aU rfl) ?_
 intro w hw
 refine⟨(some ⟨g4,0,none⟩,2),trivial,rfl,?_⟩
 refine rk (H:= []) (xs:=iP) (mA.cons (Hel:= [aj (.slice a1.Af 1 a1.cf) gX.frames,aj (.slice a1.Ab 0 a1.cb) gX.blocks,aj (.slice a1.Ai 0 a1.ci) gX.inn,aj (.slice a1.Ao 0 a1.co) gX.out]) (cs:= [_,_,_,_,_,_]) (m8 (m:=gX) (by decide))
  (mA.cons (Hel:= [aj (.slice a2.Af 1 a2.cf) gX.frames,aj (.slice a2.Ab 0 a2.cb) gX.blocks,aj (.slice a2.Ai 0 a2.ci) gX.inn,aj (.slice a2.Ao 0 a2.co) gX.out]) (cs:= [_,_,_,_,_,_]) (m8 (m:=gX) (by decide)) mA.nil_)) rfl (by decide) ?_
 exact hw.msub ms
theorem tD (A1 A2:Option Addr) (c1:Nat) (n:Int) (w:World) (h1:Sl w (.slice A1 1 c1) [n]) (h2:Sl w (.slice A2 1 1) [n]):Calls Tryz.prog 51 #[.slice A1 1 c1,.slice A2 1 1] w fun e w'=>e= .returned (.bool true)∧Below w.heap.size w w':=by
 have:=jT A1 A2 c1 1 [n] [n] w h1 h2
 rw[decide_eq_true rfl] at this
 exact this
attribute [irreducible] mb jH jl iP
set_option maxRecDepth 100000 in
set_option maxHeartbeats 400000 in
theorem ra (w:World):Calls Tryz.prog 48 #[] w fun e w'=>e= .returned (.bool true)∧Below w.heap.size w w':=by
 obtain⟨f1,f2,f3,f4,f5,f6,f7,f8,f9⟩:=jq
 refine enter Tryz.func48 rfl Tryz.ntmps48 rfl ?_
 refine ac<|aa<|rn 1 [] rfl<|ae<|ac<|aa<|ag (cO rfl rfl rfl kh (fun w hw=>fK w)) rfl rfl (fun gp _=>?_)
 refine ag (cO rfl rfl rfl Tryz.call96 (fun w hw=>tw w)) rfl rfl (fun⟨P1,p1⟩ _=>?_)
 try dsimp only
 refine ag (cO rfl rfl rfl Tryz.call42 (fun w hw=>zJ _ P1 _ p1 w (SF.at_ (SF.own rfl fc) hw) (SF.at_ (SF.own (xs:=iP) tK fc) hw))) rfl rfl (fun⟨A1,a1⟩ _=>?_)
 try dsimp only
 refine rn 3 [14,15] rfl<|ag (aZ bS rfl rfl) rfl rfl (fun g1 _=>?_)
 refine ag (aH _ fc aU rfl rfl rfl rfl rfl (by rfl) rfl (by rfl)) rfl rfl (fun _ _=>?_)
 refine rn 1 [1,2] rfl<|ae<|dF (fun _:Nat×Option Addr×Nat=>True) (fun g=> [(2,.int .i64 0),(3,.pointer (some ⟨g.1,0,none⟩)),(4,.int .i64 0)]) (fun g=> [am g.1 [.slice g.2.1 2 g.2.2] 67,aj (.slice g.2.1 2 g.2.2) jH]) ?_ ?_
 ·refine bQ (.still 1 (.pick 0 (.pick 2 (.calm 3 (.calm 4 (.calm 5 (.pick 6 (.pick 7 (.calm 8 .done) .stop) .stop)))) (.pick 6 (.pick 2 (.calm 3 (.calm 4 (.calm 5 (.pick 7 (.calm 8 .done) .stop)))) .stop) .stop)) (.pick 6 (.pick 0 (.pick 2 (.calm 3 (.calm 4 (.calm 5 (.pick 7 (.calm 8 .done) .stop)))) .stop) .stop) .stop))) [2,3,4,5,7,8] rfl (by kernel_rfl) (by kernel_rfl) ?_
  refine an rfl (aQ (vs:= [_]) fc bT aU rfl rfl (by rfl) rfl) rfl rfl ha ?_
  refine aB rfl (cO rfl rfl rfl kh (fun w hw=>fK w)) rfl rfl (.inr fun _=>ha) (fun gq _=>?_) ?_
  ·refine aB rfl (cO rfl rfl rfl po (fun w hw=>ko (l:=mb) (r:=jH) m5 iU tV f4 f5 _ A1 _ a1 w (SF.at_ (SF.own rfl fc) hw) (SF.at_ (SF.own (xs:=mb) m5 fc) hw))) rfl rfl (.inl rfl) (fun⟨A2,a2⟩ _=>?_) ?_
   ·try dsimp only
    refine dZ 3 [2,20,21] rfl<|aB rfl (aZ bS rfl rfl) rfl rfl (.inr fun _=>ha) (fun q _=>?_) ay
    refine aB rfl (aH [_] fc aU rfl rfl rfl rfl rfl (by rfl) rfl (by rfl)) rfl rfl (.inl rfl) (fun _ _=>?_) ay
    refine dZ 1 [2,3,4] rfl<|ck<|aY (q,A2,a2) (trivial) ⟨rfl,rfl,rfl,trivial⟩ (fun _ h=>h.msub ms)
   refine aB rfl (aZ bS rfl rfl) rfl rfl (.inr fun _=>ha) (fun q _=>?_) ay
   refine aB rfl (cO rfl rfl rfl po (fun w hw=>ko (l:=mb) (r:=jH) m5 iU tV f4 f5 _ A1 _ a1 w (SF.at_ (SF.own rfl fc) hw) (SF.at_ (SF.own (xs:=mb) m5 fc) hw))) rfl rfl (.inl rfl) (fun⟨A2,a2⟩ _=>?_) ay
   try dsimp only
   refine dZ 3 [2,3,20,21] rfl<|aB rfl (aH [_] fc aU rfl rfl rfl rfl rfl (by rfl) rfl (by rfl)) rfl rfl (.inl rfl) (fun _ _=>?_) ay
   refine dZ 1 [2,3,4] rfl<|ck<|aY (q,A2,a2) (trivial) ⟨rfl,rfl,rfl,trivial⟩ (fun _ h=>h.msub ms)
  refine aB rfl (aZ bS rfl rfl) rfl rfl (.inr fun _=>ha) (fun q _=>?_) ay
  refine aB rfl (cO rfl rfl rfl kh (fun w hw=>fK w)) rfl rfl (.inr fun _=>ha) (fun gq _=>?_) ay
  refine aB rfl (cO rfl rfl rfl po (fun w hw=>ko (l:=mb) (r:=jH) m5 iU tV f4 f5 _ A1 _ a1 w (SF.at_ (SF.own rfl fc) hw) (SF.at_ (SF.own (xs:=mb) m5 fc) hw))) rfl rfl (.inl rfl) (fun⟨A2,a2⟩ _=>?_) ay
  try dsimp only
  refine dZ 3 [2,3,20,21] rfl<|aB rfl (aH [_] fc aU rfl rfl rfl rfl rfl (by rfl) rfl (by rfl)) rfl rfl (.inl rfl) (fun _ _=>?_) ay
  refine dZ 1 [2,3,4] rfl<|ck<|aY (q,A2,a2) (trivial) ⟨rfl,rfl,rfl,trivial⟩ (fun _ h=>h.msub ms)
 rintro⟨gb,A2,a2⟩ _
 try dsimp only
 refine dF (fun _:Nat×Option Addr×Nat=>True) (fun g=> [(2,.int .i64 0),(3,.pointer (some ⟨gb,0,none⟩)),(4,.int .i64 0),(5,.pointer (some ⟨g.1,0,none⟩)),(6,.int .i64 0)]) (fun g=> [am g.1 [.slice g.2.1 2 g.2.2] 67,aj (.slice g.2.1 2 g.2.2) jl,am gb [.slice A2 2 a2] 67,aj (.slice A2 2 a2) jH]) ?_ ?_
 ·refine bQ (.still 1 (.pick 0 (.pick 2 (.calm 3 (.calm 4 (.calm 5 (.pick 6 (.pick 7 (.calm 8 .done) .stop) .stop)))) (.pick 6 (.pick 2 (.calm 3 (.calm 4 (.calm 5 (.pick 7 (.calm 8 .done) .stop)))) .stop) .stop)) (.pick 6 (.pick 0 (.pick 2 (.calm 3 (.calm 4 (.calm 5 (.pick 7 (.calm 8 .done) .stop)))) .stop) .stop) .stop))) [2,3,4,5,7,8] rfl (by kernel_rfl) (by kernel_rfl) ?_
  refine an rfl (aQ (vs:= [_]) fc bT aU rfl rfl (by rfl) rfl) rfl rfl ha ?_
  refine aB rfl (cO rfl rfl rfl kh (fun w hw=>fK w)) rfl rfl (.inr fun _=>ha) (fun gq _=>?_) ?_
  ·refine aB rfl (cO rfl rfl rfl po (fun w hw=>ko (l:=jH) (r:=jl) iU k9 tU f6 f7 _ A2 _ a2 w (SF.at_ (SF.own rfl fc) hw) (SF.at_ (SF.own (xs:=jH) iU fc) hw))) rfl rfl (.inl rfl) (fun⟨A3,a3⟩ _=>?_) ?_
   ·try dsimp only
    refine dZ 3 [2,3,4,26,27] rfl<|aB rfl (aZ bS rfl rfl) rfl rfl (.inr fun _=>ha) (fun q _=>?_) ay
    refine aB rfl (aH [_] fc aU rfl rfl rfl rfl rfl (by rfl) rfl (by rfl)) rfl rfl (.inl rfl) (fun _ _=>?_) ay
    refine dZ 1 [2,3,4,5,6] rfl<|ck<|aY (q,A3,a3) (trivial) ⟨rfl,rfl,rfl,rfl,rfl,trivial⟩ (fun _ h=>h.msub ms)
   refine aB rfl (aZ bS rfl rfl) rfl rfl (.inr fun _=>ha) (fun q _=>?_) ay
   refine aB rfl (cO rfl rfl rfl po (fun w hw=>ko (l:=jH) (r:=jl) iU k9 tU f6 f7 _ A2 _ a2 w (SF.at_ (SF.own rfl fc) hw) (SF.at_ (SF.own (xs:=jH) iU fc) hw))) rfl rfl (.inl rfl) (fun⟨A3,a3⟩ _=>?_) ay
   try dsimp only
   refine dZ 3 [2,3,4,5,26,27] rfl<|aB rfl (aH [_] fc aU rfl rfl rfl rfl rfl (by rfl) rfl (by rfl)) rfl rfl (.inl rfl) (fun _ _=>?_) ay
   refine dZ 1 [2,3,4,5,6] rfl<|ck<|aY (q,A3,a3) (trivial) ⟨rfl,rfl,rfl,rfl,rfl,trivial⟩ (fun _ h=>h.msub ms)
  refine aB rfl (aZ bS rfl rfl) rfl rfl (.inr fun _=>ha) (fun q _=>?_) ay
  refine aB rfl (cO rfl rfl rfl kh (fun w hw=>fK w)) rfl rfl (.inr fun _=>ha) (fun gq _=>?_) ay
  refine aB rfl (cO rfl rfl rfl po (fun w hw=>ko (l:=jH) (r:=jl) iU k9 tU f6 f7 _ A2 _ a2 w (SF.at_ (SF.own rfl fc) hw) (SF.at_ (SF.own (xs:=jH) iU fc) hw))) rfl rfl (.inl rfl) (fun⟨A3,a3⟩ _=>?_) ay
  try dsimp only
  refine dZ 3 [2,3,4,5,26,27] rfl<|aB rfl (aH [_] fc aU rfl rfl rfl rfl rfl (by rfl) rfl (by rfl)) rfl rfl (.inl rfl) (fun _ _=>?_) ay
  refine dZ 1 [2,3,4,5,6] rfl<|ck<|aY (q,A3,a3) (trivial) ⟨rfl,rfl,rfl,rfl,rfl,trivial⟩ (fun _ h=>h.msub ms)
 rintro⟨gc,A3,a3⟩ _
 try dsimp only
 refine dF (fun _:Nat×Option Addr×Nat=>True) (fun g=> [(2,.int .i64 0),(3,.pointer (some ⟨gb,0,none⟩)),(4,.int .i64 0),(5,.pointer (some ⟨gc,0,none⟩)),(6,.int .i64 0),(7,.pointer (some ⟨g.1,0,none⟩)),(8,.int .i64 0),(9,.int .i64 0)]) (fun g=> [am g.1 [.slice g.2.1 2 g.2.2] 67,aj (.slice g.2.1 2 g.2.2) jl,am gc [.slice A3 2 a3] 67,aj (.slice A3 2 a3) jl,am gb [.slice A2 2 a2] 67,aj (.slice A2 2 a2) jH]) ?_ ?_
 ·refine bQ (.still 1 (.pick 0 (.pick 2 (.calm 3 (.calm 4 (.calm 5 (.calm 6 (.pick 7 (.pick 8 (.calm 9 (.calm 10 .done)) .stop) .stop))))) (.pick 7 (.pick 2 (.calm 3 (.calm 4 (.calm 5 (.calm 6 (.pick 8 (.calm 9 (.calm 10 .done)) .stop))))) .stop) .stop)) (.pick 7 (.pick 0 (.pick 2 (.calm 3 (.calm 4 (.calm 5 (.calm 6 (.pick 8 (.calm 9 (.calm 10 .done)) .stop))))) .stop) .stop) .stop))) [2,3,4,5,6,8,9,10] rfl (by kernel_rfl) (by kernel_rfl) ?_
  refine an rfl (aQ (vs:= [_]) fc bT aU rfl rfl (by rfl) rfl) rfl rfl ha ?_
  refine aB rfl (cO rfl rfl rfl kh (fun w hw=>fK w)) rfl rfl (.inr fun _=>ha) (fun gq _=>?_) ?_
  ·refine aB rfl (cO rfl rfl rfl D3 (fun w hw=>pF _ A3 _ a3 w (SF.at_ (SF.own rfl fc) hw) (SF.at_ (SF.own (xs:=jl) k9 fc) hw))) rfl rfl (.inl rfl) (fun⟨A4,a4⟩ _=>?_) ?_
   ·try dsimp only
    refine dZ 4 [2,3,4,5,6,32,33,34] rfl<|aB rfl (aZ bS rfl rfl) rfl rfl (.inr fun _=>ha) (fun q _=>?_) ay
    refine aB rfl (aH [_] fc aU rfl rfl rfl rfl rfl (by rfl) rfl (by rfl)) rfl rfl (.inl rfl) (fun _ _=>?_) ay
    refine dZ 2 [2,3,4,5,6,7,8,9] rfl<|ck<|aY (q,A4,a4) (trivial) ⟨rfl,rfl,rfl,rfl,rfl,rfl,rfl,rfl,trivial⟩ (fun _ h=>h.msub ms)
   refine aB rfl (aZ bS rfl rfl) rfl rfl (.inr fun _=>ha) (fun q _=>?_) ay
   refine aB rfl (cO rfl rfl rfl D3 (fun w hw=>pF _ A3 _ a3 w (SF.at_ (SF.own rfl fc) hw) (SF.at_ (SF.own (xs:=jl) k9 fc) hw))) rfl rfl (.inl rfl) (fun⟨A4,a4⟩ _=>?_) ay
   try dsimp only
   refine dZ 4 [2,3,4,5,6,7,32,33,34] rfl<|aB rfl (aH [_] fc aU rfl rfl rfl rfl rfl (by rfl) rfl (by rfl)) rfl rfl (.inl rfl) (fun _ _=>?_) ay
   refine dZ 2 [2,3,4,5,6,7,8,9] rfl<|ck<|aY (q,A4,a4) (trivial) ⟨rfl,rfl,rfl,rfl,rfl,rfl,rfl,rfl,trivial⟩ (fun _ h=>h.msub ms)
  refine aB rfl (aZ bS rfl rfl) rfl rfl (.inr fun _=>ha) (fun q _=>?_) ay
  refine aB rfl (cO rfl rfl rfl kh (fun w hw=>fK w)) rfl rfl (.inr fun _=>ha) (fun gq _=>?_) ay
  refine aB rfl (cO rfl rfl rfl D3 (fun w hw=>pF _ A3 _ a3 w (SF.at_ (SF.own rfl fc) hw) (SF.at_ (SF.own (xs:=jl) k9 fc) hw))) rfl rfl (.inl rfl) (fun⟨A4,a4⟩ _=>?_) ay
  try dsimp only
  refine dZ 4 [2,3,4,5,6,7,32,33,34] rfl<|aB rfl (aH [_] fc aU rfl rfl rfl rfl rfl (by rfl) rfl (by rfl)) rfl rfl (.inl rfl) (fun _ _=>?_) ay
  refine dZ 2 [2,3,4,5,6,7,8,9] rfl<|ck<|aY (q,A4,a4) (trivial) ⟨rfl,rfl,rfl,rfl,rfl,rfl,rfl,rfl,trivial⟩ (fun _ h=>h.msub ms)
 rintro⟨gd,A4,a4⟩ _
 try dsimp only
 refine zb (v:= .slice A2 2 a2) (L:=jH) fc fun X hsX hX=>?_
 refine zb (v:= .slice A3 2 a3) (L:=jl) fc fun Y hsY hY=>?_
 obtain⟨b1,e1,_,hX1⟩:=hX.el 1 (by rw[iU];decide)
 obtain⟨c0,e2,_,hY1⟩:=hY.el 0 (by rw[k9];decide)
 rw[CT] at e1 hX1
 rw[BG] at e2 hY1
 have lX:=hX.len.trans iU
 have lY:=hY.len.trans k9
 have R1:∀H H',cC H (aj (.slice A2 2 a2) hsX) H'→∀w1,Cw w.heap.size w H w1→w1.cell? ⟨ab A2,ao A2+1*6+2,none⟩=some (.slice b1.Ai 1 b1.ci):=fun _ _ f w1 hw=>(SF.hmc (SF.own (α:=ec) (m:=2) lX f) (k:=1) (by decide) e1) w1 hw 2 _ rfl
 have R2:∀H H',cC H (aj (.slice A3 2 a3) hsY) H'→∀w1,Cw w.heap.size w H w1→w1.cell? ⟨ab A3,ao A3+0*6+2,none⟩=some (.slice c0.Ai 1 c0.ci):=fun _ _ f w1 hw=>(SF.hmc (SF.own (α:=ec) (m:=2) lY f) (k:=0) (by decide) e2) w1 hw 2 _ rfl
 have T1:∀H H',cC H X H'→SF w.heap.size w H b1.Ai 1 b1.ci [(9:Int)]:=fun _ _ f=>(hX1 _ _ f).2.2.1
 have T2:∀H H',cC H Y H'→SF w.heap.size w H c0.Ai 1 c0.ci [(81:Int)]:=fun _ _ f=>(hY1 _ _ f).2.2.1
 clear hX1 hY1 e1 e2
 refine ac<|ac<|aa<|ag (cO rfl rfl rfl kh (fun w hw=>fK w)) rfl rfl (fun gs _=>?_)
 refine ag (cO rfl rfl rfl Tryz.call96 (fun w hw=>tw w)) rfl rfl (fun⟨P5,p5⟩ _=>?_)
 try dsimp only
 refine ag (bK rfl rfl rfl xH (fun w hw=>xK _ P5 _ p5 w (SF.at_ (SF.own rfl fc) hw) (SF.at_ (SF.own (xs:=iP) tK fc) hw))) rfl rfl (fun _ _=>?_)
 refine rn 2 [2,3,4,5,6,7,8,9,39] rfl<|bA (t:=39) (v':= .bool false) rfl (rfl) ?_
 refine rn 4 [3,4,5,6,7,8,9,43] rfl<|bA (t:=43) (v':= .bool false) rfl (rfl) ?_
 refine rn 4 [3,5,6,7,8,9,47] rfl<|bA (t:=47) (v':= .bool false) rfl (rfl) ?_
 refine rn 4 [3,5,7,8,9,51] rfl<|bA (t:=51) (v':= .bool false) rfl (rfl) ?_
 refine rn 4 [3,5,7,8,55] rfl<|bA (t:=55) (v':= .bool false) rfl (rfl) ?_
 refine rn 1 [3,5,7,8,55,56] rfl<|af (ai fc cM rfl rfl (by rfl)) rfl rfl ?_
 refine af (aN bn rfl rfl) rfl rfl<|rn 3 [3,5,7,8,61] rfl<|bA (t:=61) (v':= .bool false) rfl (rfl) ?_
 refine rn 1 [3,5,7,8,61,62] rfl<|af (ai fc cM rfl rfl (by rfl)) rfl rfl ?_
 refine af (aN bn rfl rfl) rfl rfl<|rn 3 [3,5,7,8,67] rfl<|bA (t:=67) (v':= .bool false) rfl (rfl) ?_
 refine rn 1 [3,5,8,67,68] rfl<|af (ai fc cM rfl rfl (by rfl)) rfl rfl ?_
 refine af (aN bn rfl rfl) rfl rfl<|rn 2 [3,5,8,72] rfl<|ae<|cP (t:=72) (v':= .bool false) rfl (rfl) ?_
 refine dg rfl<|ax (ap ?_)
 refine ac<|aa<|rn 1 [5,8,73] rfl<|af (ai fc cM rfl rfl (by rfl)) rfl rfl ?_
 refine af (aO (k:=1) bn aF (SF.own (α:=ec) (m:=2) lX fc) (by omega) rfl rfl rfl) rfl rfl ?_
 refine rn 1 [5,8,76] rfl<|af (a8 (R1 _ _ fc) rfl rfl a5) rfl rfl ?_
 refine ag (bh (cs:= [_]) ah aI a7 rfl rfl rfl rfl rfl) rfl rfl (fun g2 _=>?_)
 refine iD (fun w h=>cA (α:=Int) (m:=1) [9] rfl (iH (by decide)) rfl (by decide) h) ?_
 refine ag (bK rfl rfl rfl sm (fun w hw=>tD b1.Ai (some ⟨g2,0,none⟩) b1.ci 9 w (SF.at_ (T1 _ _ fc) hw) (SF.at_ (SF.own (A:=some ⟨g2,0,none⟩) (m:=1) (c:=1) (xs:= [(9:Int)]) rfl fc) hw))) rfl rfl (fun _ _=>?_)
 refine rn 1 [5,8,80] rfl<|bA (t:=80) (v':= .bool true) rfl (rfl) ?_
 refine rn 1 [8,80,81] rfl<|af (ai fc cM rfl rfl (by rfl)) rfl rfl ?_
 refine af (aO (k:=0) bn aF (SF.own (α:=ec) (m:=2) lY fc) (by omega) rfl rfl rfl) rfl rfl ?_
 refine rn 1 [8,80,84] rfl<|af (a8 (R2 _ _ fc) rfl rfl a5) rfl rfl ?_
 refine ag (bh (cs:= [_]) ah aI a7 rfl rfl rfl rfl rfl) rfl rfl (fun g3 _=>?_)
 refine iD (fun w h=>cA (α:=Int) (m:=1) [81] rfl (iH (by decide)) rfl (by decide) h) ?_
 refine ag (bK rfl rfl rfl sm (fun w hw=>tD c0.Ai (some ⟨g3,0,none⟩) c0.ci 81 w (SF.at_ (T2 _ _ fc) hw) (SF.at_ (SF.own (A:=some ⟨g3,0,none⟩) (m:=1) (c:=1) (xs:= [(81:Int)]) rfl fc) hw))) rfl rfl (fun _ _=>?_)
 refine rn 2 [8,89] rfl<|bA (t:=89) (v':= .bool true) rfl (rfl) ?_
 refine rn 4 [0] rfl<|ae<|au<|aA Tryz.results48 (aq rfl) ?_
 intro w hw
 exact⟨rfl,hw.below⟩
end
section
def mg (fs:List aC) (l:List aD):Int:=if dU fs≠0 then dU fs else if l.length=0 then 5 else if 4<l.length then 2 else 0
def nQ (fs:List aC) (l:List aD):Int:=if dU fs≠0 then dU fs else if l.length=0 then 5 else 0
theorem sQ (fs:List aC) (l:List aD):mg fs l=if nQ fs l=0∧4<l.length then 2 else nQ fs l:=by
 unfold mg nQ
 by_cases h:dU fs=0 <;> by_cases h0:l.length=0 <;> by_cases h4:4<l.length <;> simp[h,h0,h4]
theorem nY (fs:List aC) (l:List aD):cz fs l=if mg fs l≠0 then mg fs l else dw (ed fs) l:=by
 unfold cz mg
 by_cases h:dU fs=0 <;> by_cases h0:l.length=0 <;> by_cases h4:4<l.length <;> simp[h,h0,h4]
theorem zF {fs:List aC} {l:List aD} (h:mg fs l=0):dU fs=0:=by
 unfold mg at h
 split at h
 ·exact h
 exact Classical.not_not.1 (by assumption)
set_option maxRecDepth 100000 in
set_option maxHeartbeats 2000000 in
theorem ww (Ap Aw:Option Addr) (cp cw:Nat) (fs:List aC) (l:List aD) (w:World) (hs:Sl w (.slice Ap fs.length cp) fs) (hl:Sl w (.slice Aw l.length cw) l) (hfit:kc l) :
  Calls Tryz.prog 43 #[.agg #[.slice Ap fs.length cp],.agg #[.slice Aw l.length cw]] w fun e w'=>e= .returned (.int .i64 (cz fs l))∧Below w.heap.size w w':=by
 have bl:=bO hl
 refine enter Tryz.func43 rfl Tryz.ntmps43 rfl ?_
 refine ac<|aa<|ag (bF rfl rfl rfl) rfl rfl (fun g1 _=>?_)
 refine ag (bF rfl rfl rfl) rfl rfl (fun g2 _=>?_)
 refine rn 1 [2,3] rfl<|ae<|ac<|aa<|af (aQ (vs:= [_]) fc cE cg rfl rfl (by rfl) rfl) rfl rfl ?_
 refine ag (bK rfl rfl rfl Tryz.call16 (fun w hw=>rp Ap cp fs w (hw.ro hs))) rfl rfl (fun _ _=>?_)
 refine rn 1 [2,3,5] rfl<|ae<|dF (fun _:Unit=>True) (fun _=> [(2,.pointer (some ⟨g1,0,none⟩)),(3,.pointer (some ⟨g2,0,none⟩)),(5,.int .i64 (nQ fs l))]) (fun _=> [am g1 [.slice Ap fs.length cp] 24,am g2 [.slice Aw l.length cw] 67]) ?_ ?_
 ·refine ac<|aa<|rn 3 [2,3,5,11] rfl<|bw (t:=11) rfl (fun hp=>?_) (fun hp=>?_)
  ·have hp:dU fs=0:=of_decide_eq_true hp
   refine rn 1 [2,3,5,11,12] rfl<|af (ai fc cM rfl rfl (by rfl)) rfl rfl ?_
   refine af (aN bn rfl rfl) rfl rfl<|rn 2 [2,3,5,16] rfl<|ae<|aw rfl (fun h0=>?_) (fun h0=>?_)
   ·have h0:l.length=0:=by have h0:(l.length:Int)=0:=h0;omega
    refine aa<|rn 1 [2,3,5] rfl<|bA (t:=5) (v':= .int .i64 (nQ fs l)) rfl (by unfold nQ;rw[if_neg (fun h=>h hp),if_pos h0]) ?_
    refine fa () (trivial) ⟨rfl,rfl,rfl,trivial⟩ me
   have h0:¬l.length=0:=by have h0:¬(l.length:Int)=0:=h0;omega
   refine cP (t:=5) (v':= .int .i64 (nQ fs l)) rfl (by unfold nQ;rw[if_neg (fun h=>h hp),if_neg h0,hp]) ?_
   refine ax<|aY () (trivial) ⟨rfl,rfl,rfl,trivial⟩ me
  have hp:¬dU fs=0:=of_decide_eq_false hp
  refine bA (t:=5) (v':= .int .i64 (nQ fs l)) rfl (by unfold nQ;rw[if_pos hp]) ?_
  refine rn 5 [2,3,5,16] rfl<|ae<|dg rfl<|ax<|aY () (trivial) ⟨rfl,rfl,rfl,trivial⟩ me
 rintro⟨⟩ _
 try dsimp only
 refine dF (fun _:Unit=>True) (fun _=> [(2,.pointer (some ⟨g1,0,none⟩)),(3,.pointer (some ⟨g2,0,none⟩)),(5,.int .i64 (mg fs l))]) (fun _=> [am g1 [.slice Ap fs.length cp] 24,am g2 [.slice Aw l.length cw] 67]) ?_ ?_
 ·refine ac<|aa<|rn 3 [2,3,5,19] rfl<|bw (t:=19) rfl (fun hp=>?_) (fun hp=>?_)
  ·have hp:nQ fs l=0:=of_decide_eq_true hp
   refine rn 1 [2,3,5,19,20] rfl<|af (ai fc cM rfl rfl (by rfl)) rfl rfl ?_
   refine af (aN bn rfl rfl) rfl rfl<|rn 2 [2,3,5,24] rfl<|ae<|aw rfl (fun h4=>?_) (fun h4=>?_)
   ·have h4:4<l.length:=by have h4:(4:Int)<l.length:=h4;omega
    refine aa<|rn 1 [2,3,5] rfl<|bA (t:=5) (v':= .int .i64 (mg fs l)) rfl (by rw[sQ,if_pos ⟨hp,h4⟩]) ?_
    refine fa () (trivial) ⟨rfl,rfl,rfl,trivial⟩ me
   have h4:¬4<l.length:=by have h4:¬(4:Int)<l.length:=h4;omega
   refine cP (t:=5) (v':= .int .i64 (mg fs l)) rfl (by rw[sQ,if_neg (fun h=>h4 h.2)]) ?_
   refine ax<|aY () (trivial) ⟨rfl,rfl,rfl,trivial⟩ me
  have hp:¬nQ fs l=0:=of_decide_eq_false hp
  refine bA (t:=5) (v':= .int .i64 (mg fs l)) rfl (by rw[sQ,if_neg (fun h=>hp h.1)]) ?_
  refine rn 5 [2,3,5,24] rfl<|ae<|dg rfl<|ax<|aY () (trivial) ⟨rfl,rfl,rfl,trivial⟩ me
 rintro⟨⟩ _
 try dsimp only
 refine ac<|ac<|aa<|rn 1 [2,3,5,6] rfl<|ae<|aL (b8 (fun g:Nat×Int=>g.1≤l.length∧(g.2≠0→g.2=cz fs l)∧(g.2=0→mg fs l=0∧dw (ed fs) (l.take g.1)=0)) (fun g=>l.length - g.1) (fun g=> [(2,.pointer (some ⟨g1,0,none⟩)),(3,.pointer (some ⟨g2,0,none⟩)),(5,.int .i64 g.2),(6,.int .i64 (g.1:Int))]) (fun _=> [am g1 [.slice Ap fs.length cp] 24,am g2 [.slice Aw l.length cw] 67]) (0,mg fs l) (⟨Nat.zero_le _,fun h=>by rw[nY,if_pos h],fun h=>⟨h,rfl⟩⟩) ⟨rfl,rfl,rfl,rfl,trivial⟩ me ?_)
 rintro⟨i,e⟩ hi'
 try dsimp only
 obtain⟨hi,hE1,hE2⟩:i≤l.length∧(e≠0→e=cz fs l)∧(e=0→mg fs l=0∧dw (ed fs) (l.take i)=0):=hi'
 refine ac<|ac<|aa<|rn 2 [2,3,5,6,25,26] rfl<|af (ai fc cM rfl rfl (by rfl)) rfl rfl ?_
 refine af (aN bn rfl rfl) rfl rfl<|rn 2 [2,3,5,6,30] rfl<|bw (t:=30) rfl (fun q=>?_) (fun q=>?_)
 ·have q:(i:Int)<l.length:=of_decide_eq_true q
  refine rn 3 [2,3,5,6,33] rfl<|ae<|aw rfl (fun he=>?_) (fun he=>?_)
  ·have he:e=0:=he
   subst he
   obtain⟨hz0,hz⟩:=hE2 rfl
   have hil:i<l.length:=by omega
   obtain⟨a,hm,hcell⟩:=hl.mc hil
   have hq:dw (ed fs) (l.take (i+1))=ed fs (aJ l i):=fM (g:=ed fs) default hil hz
   have hE:=nY fs l
   rw[if_neg (fun h=>h hz0)] at hE
   refine ax (ap ?_)
   refine ac<|aL<|bQ (.still 0 (.still 1 (.still 2 (.still 3 (.still 4 (.still 5 (.pick 6 (.calm 7 .done) .stop))))))) [6,7] rfl (by kernel_rfl) (by kernel_rfl) ?_
   refine an rfl (aQ (vs:= [_]) fc cE cg rfl rfl (by rfl) rfl) rfl rfl ha ?_
   refine aV ha 1 [2,3,5,6,36,37] rfl<|an rfl (ai fc cM rfl rfl (by rfl)) rfl rfl ha ?_
   refine aV ha 1 [2,3,5,6,36,38,39] rfl<|an rfl (aO (k:=i) bn aF (.ro hl) (by omega) rfl rfl rfl) rfl rfl ha ?_
   refine an rfl (cr (hcell _) rfl rfl bd aF) rfl rfl ha ?_
   refine aB rfl (bK rfl rfl rfl Tryz.call19 (fun w hw=>wx a (aJ l i) Ap cp fs w (hw.ro hs) (hm.ro hw) (rA (zF hz0)) (hfit.2 _ (fG hil)) _ rfl)) rfl rfl (.inl rfl) (fun _ _=>?_) ay
   refine dZ 1 [2,3,5,6] rfl<|ck (aK (ap ?_))
   refine aa<|rn 1 [2,3,5,34] rfl<|af (bH rfl rfl rfl (by omega)) rfl rfl<|rn 1 [2,3,5,6] rfl<|br (i+1,ed fs (aJ l i)) (⟨by show i+1≤_;omega,fun h=>by show ed fs (aJ l i)=_;rw[hE,iX (k:=i+1) (by rw[hq];exact h),hq],fun h=>⟨hz0,hq.trans h⟩⟩) (by show _ - _<_ - _;omega) ⟨rfl,rfl,rfl,rfl,trivial⟩ me
  have he:¬e=0:=he
  refine bN (aM (aM (cc (ap ?_))))
  refine ac<|aa<|rn 2 [4] rfl<|ae<|au<|aA Tryz.results43 (aq rfl) ?_
  intro w hw
  exact⟨dV (hE1 he),hw.below⟩
 have q:¬(i:Int)<l.length:=of_decide_eq_false q
 obtain rfl:i=l.length:=by omega
 have hfin:e=cz fs l:=by
  by_cases he:e=0
  ·obtain⟨hz0,hz⟩:=hE2 he
   rw[nY,if_neg (fun h=>h hz0),he,←hz,List.take_length]
  exact hE1 he
 refine rn 3 [2,3,5,6,33] rfl<|ae<|dg rfl<|bN (aM (aM (cc (ap ?_))))
 refine ac<|aa<|rn 2 [4] rfl<|ae<|au<|aA Tryz.results43 (aq rfl) ?_
 intro w hw
 exact⟨dV hfin,hw.below⟩
end
section
set_option maxRecDepth 100000 in
set_option maxHeartbeats 2000000 in
theorem qr (Aw:Option Addr) (cw n:Nat) (fs:List aC) (l:List aD) (hn:l.length=n) (hW:mz fs l) (w:World) (hl:Sl w (.slice Aw n cw) l) :
  Calls Tryz.prog 95 #[.agg #[.slice Aw n cw]] w fun e w'=> ∃g:Option Addr×Nat,True∧e= .returned (.agg #[.slice g.1 n g.2])∧Cw w.heap.size w [aj (.slice g.1 n g.2) l] w':=by
 subst hn
 have bl:=bO hl
 have hn4:=hW.n4
 refine enter Tryz.func95 rfl Tryz.ntmps95 rfl ?_
 refine ac<|aa<|ag (bF rfl rfl rfl) rfl rfl (fun g1 _=>?_)
 refine ag (aZ bS rfl rfl) rfl rfl (fun g2 _=>?_)
 refine ae<|ac<|aa<|ag (aZ bS rfl rfl) rfl rfl (fun g3 _=>?_)
 refine ae<|ac<|ac<|aa<|rn 1 [1,2,3,4] rfl<|ae<|dO (fun w h=>Cw.nilO aD h) ?_
 refine aL (b8 (fun g:Nat×Option Addr×Nat=>g.1≤l.length) (fun g=>l.length - g.1) (fun g=> [(1,.pointer (some ⟨g1,0,none⟩)),(2,.pointer (some ⟨g2,0,none⟩)),(3,.pointer (some ⟨g3,0,none⟩)),(4,.int .i64 (g.1:Int))]) (fun g=> [am g3 [.slice g.2.1 ((l.take g.1)).length g.2.2] 67,aj (.slice g.2.1 ((l.take g.1)).length g.2.2) ((l.take g.1)),am g1 [.slice Aw l.length cw] 67,am g2 [.slice none 0 0] 67]) (0,none,0) (Nat.zero_le _) ⟨rfl,rfl,rfl,rfl,trivial⟩ me ?_)
 rintro⟨k,A',c'⟩ hk'
 try dsimp only
 have hk:k≤l.length:=hk'
 have hkt:((l.take k)).length=k:=by rw[List.length_take];omega
 refine ac<|ac<|aa<|rn 2 [1,2,3,4,5,6] rfl<|af (ai fc cM rfl rfl (by rfl)) rfl rfl ?_
 refine af (aN bn rfl rfl) rfl rfl<|rn 1 [1,2,3,4,9] rfl<|ae<|aw rfl (fun hlt=>?_) (fun hlt=>?_)
 ·have hkl:k<l.length:=by omega
  obtain⟨a,hm,hcell⟩:=hl.mc hkl
  have hR:=hW.r _ (fG hkl)
  have htk:l.take (k+1)=l.take k++ [aJ l k]:=oY hkl
  have hI:=kV hR
  refine ax (ap ?_)
  refine ac<|aL<|bQ (.still 0 (.still 1 (.still 2 (.still 3 (.still 4 (.still 5 (.still 6 (.pick 7 (.pick 8 (.pick 9 (.calm 10 (.pick 11 .done .stop)) .stop) .stop) .stop)))))))) [9,10,11] rfl (by kernel_rfl) (by kernel_rfl) ?_
  refine aV ha 1 [1,2,3,4,12] rfl<|an rfl (ai fc cM rfl rfl (by rfl)) rfl rfl ha ?_
  refine aV ha 1 [1,2,3,4,13,14] rfl<|an rfl (ai fc cM rfl rfl (by rfl)) rfl rfl ha ?_
  refine aV ha 1 [1,2,3,4,13,15,16] rfl<|an rfl (aO (k:=k) bn aF (.ro hl) (by omega) rfl rfl rfl) rfl rfl ha ?_
  refine an rfl (cr (hcell _) rfl rfl bd aF) rfl rfl ha ?_
  refine aB rfl (cO rfl rfl rfl xG (fun w hw=>jX a (aJ l k) w (hm.ro hw) (kK hW.f hR))) rfl rfl (.inr fun _=>ha) (fun ga _=>?_) ay
  refine aB rfl (bh (cs:= [_,_,_,_,_,_]) bn aF bW rfl rfl rfl rfl rfl) rfl rfl (.inr fun _=>ha) (fun g4 _=>?_) ay
  refine aB rfl (dm (α:=aD) (bytes:=112) (aJ l k) [aj (.slice ga.Af (aJ l k).frames.length ga.cf) (aJ l k).frames,aj (.slice ga.Ab (aJ l k).blocks.length ga.cb) (aJ l k).blocks,aj (.slice ga.Ai (aJ l k).inn.length ga.ci) (aJ l k).inn,aj (.slice ga.Ao (aJ l k).out.length ga.co) (aJ l k).out] htk bn (bM kR) rfl (sK fc fc fc fc fc fc) (m8 hI) (by omega) (by omega) rfl rfl rfl) rfl rfl (.inl rfl) (fun⟨A5,c5⟩ _=>?_) ay
  try dsimp only
  refine dZ 1 [1,2,3,4,21,22] rfl<|aB rfl (aH _ fc zz rfl rfl rfl rfl rfl (by rfl) rfl (by rfl)) rfl rfl (.inl rfl) (fun _ _=>?_) ay
  refine ck (aK (ap ?_))
  refine aa<|rn 1 [1,2,3,10] rfl<|af (bH rfl rfl rfl (by omega)) rfl rfl<|rn 1 [1,2,3,4] rfl<|br (k+1,A5,c5) (by show k+1≤_;omega) (by show _ - _<_ - _;omega) ⟨rfl,rfl,rfl,rfl,trivial⟩ me
 obtain rfl:k=l.length:=by omega
 rw[List.take_length]
 refine bN (aM (aM (cc (ap ?_))))
 refine ac<|aa<|af (aQ (vs:= [_]) fc bT aU rfl rfl (by rfl) rfl) rfl rfl ?_
 refine ag (aH _ fc aU rfl rfl rfl rfl rfl (by rfl) rfl (by rfl)) rfl rfl (fun _ _=>?_)
 refine ae<|au<|aA Tryz.results95 (dp (cs:= [_]) fc bT aU rfl) ?_
 intro w hw
 exact⟨(A',c'),trivial,rfl,hw.msub ms⟩
end
section
def nr (l:List aD) (k:Nat) (z:Int):List aD:=if (aJ l k).inn.length=10 then [] else l.set k (eO (aJ l k) z)
set_option maxRecDepth 100000 in
set_option maxHeartbeats 2000000 in
theorem rQ (Aw:Option Addr) (cw n:Nat) (fs:List aC) (l:List aD) (hn:l.length=n) (hW:mz fs l) (i:Nat) (hi:i<n) (z:Int) (hz:aX z) (r:List aD) (hr:nr l i z=r) (w:World) (hl:Sl w (.slice Aw n cw) l) :
  Calls Tryz.prog 47 #[.agg #[.slice Aw n cw],.int .i64 (i:Int),.int .i64 z] w fun e w'=> ∃g:Option Addr×Nat,True∧e= .returned (.tuple #[.agg #[.slice g.1 r.length g.2],.bool (!decide ((aJ l i).inn.length=10))])∧Cw w.heap.size w [aj (.slice g.1 r.length g.2) r] w':=by
 have bl:=bO hl
 have hb:=(hW.r _ (fG (l:=l) (k:=i) (by omega))).ib
 refine enter Tryz.func47 rfl Tryz.ntmps47 rfl ?_
 refine ac<|aa<|ag (bF rfl rfl rfl) rfl rfl (fun g1 _=>?_)
 refine ag (aZ bS rfl rfl) rfl rfl (fun g2 _=>?_)
 refine rn 1 [1,2,3,6] rfl<|ae<|ac<|aa<|af (aQ (vs:= [_]) fc bT aU rfl rfl (by rfl) rfl) rfl rfl ?_
 refine ag (cO rfl rfl rfl Tryz.call95 (fun w hw=>qr Aw cw n fs l hn hW w (hw.ro hl))) rfl rfl (fun⟨A,c⟩ _=>?_)
 try dsimp only
 refine ag (aZ bS rfl rfl) rfl rfl (fun g3 _=>?_)
 refine ag (aH _ fc aU rfl rfl rfl rfl rfl (by rfl) rfl (by rfl)) rfl rfl (fun _ _=>?_)
 refine ae<|ac<|aa<|rn 1 [1,2,6,8,12] rfl<|af (ai fc cM rfl rfl (by rfl)) rfl rfl ?_
 refine rn 1 [2,6,8,13,14] rfl<|C1 (v:= .slice A n c) (L:=l) (k:=i) (by omega) fc fun X hs a hA=>?_
 have hhl:hs.length=n:=hA.len.trans hn
 have hhd:=hA.hd
 have hI:=hA.i64
 refine af (aO (k:=i) bn aF (SF.own (xs:=hs) hhl fc) (by omega) rfl rfl rfl) rfl rfl ?_
 refine rn 1 [2,6,8,9] rfl<|ae<|ac<|ac<|aa<|rn 3 [2,6,8,9,18] rfl<|af (a8 (fun w hw=>(SF.hmc (SF.own (xs:=hs) hhl fc) hi hhd) w hw 2 _ rfl) rfl rfl a5) rfl rfl ?_
 refine af (aN ah rfl rfl) rfl rfl<|rn 1 [2,6,8,9,21] rfl<|ae<|aw rfl (fun h10=>?_) (fun h10=>?_)
 ·have h10:(aJ l i).inn.length=10:=by have h10:((aJ l i).inn.length:Int)=10:=h10;omega
  have e:r= []:=by rw[←hr];unfold nr;rw[if_pos h10]
  subst e
  refine ac<|aa<|af (cT (cs:= [_]) nA bS rfl rfl (by rfl)) rfl rfl ?_
  refine ag (aH _ fc aU rfl rfl rfl rfl rfl (by rfl) rfl (by rfl)) rfl rfl (fun _ _=>?_)
  refine rn 1 [6,7] rfl<|ae<|au (ak ?_)
  refine bD EV (dp (cs:= [_]) fc bT aU rfl) (aq rfl) ?_
  intro w hw
  exact⟨(none,0),trivial,by rw[decide_eq_true h10];rfl,(Cw.nilO aD hw).msub ms⟩
 have h10:¬(aJ l i).inn.length=10:=by have h10:¬((aJ l i).inn.length:Int)=10:=h10;omega
 have e:r=l.set i (eO (aJ l i) z):=by rw[←hr];unfold nr;rw[if_neg h10]
 have hrn:r.length=n:=by rw[e,List.length_set];exact hn
 refine ax (ap ?_)
 refine ac<|aa<|rn 4 [2,6,8,9,23,26] rfl<|af (a8 (fun w hw=>(SF.hmc (SF.own (xs:=hs) hhl fc) hi hhd) w hw 2 _ rfl) rfl rfl a5) rfl rfl ?_
 refine rn 1 [6,8,9,23,27,28] rfl<|ag (bh (cs:= [_]) ah aI a7 rfl rfl rfl rfl rfl) rfl rfl (fun g4 _=>?_)
 refine ag (dm (α:=Int) (bytes:=8) z [] rfl ah (bM da) rfl (eA (R:=aj (.slice a.Ai (aJ l i).inn.length a.ci) (aJ l i).inn) fc fc) (pe hz) (by omega) (by omega) rfl rfl rfl) rfl rfl (fun⟨A5,c5⟩ _=>?_)
 try dsimp only
 refine rn 2 [6,8,9,30,32] rfl<|ag (kZ (α:=ec) (A:=A) (c:=c) (m:=n) (f:=2) (us:= [.slice A5 ((aJ l i).inn++ [z]).length c5]) (hZ ⟨a.Af,a.cf,a.Ab,a.cb,A5,c5,a.Ao,a.co⟩ {aJ l i with inn:=(aJ l i).inn++ [z]}) default rfl fc hi (m9 hI) bV rfl rfl rfl rfl rfl rfl (by rw[hhd];rfl) rfl) rfl rfl (fun _ _=>?_)
 refine ae<|ac<|ac<|aa<|rn 3 [6,8,9,35] rfl ?_
 have hhl2:(hs.set i (hZ ⟨a.Af,a.cf,a.Ab,a.cb,A5,c5,a.Ao,a.co⟩ {aJ l i with inn:=(aJ l i).inn++ [z]})).length=n:=by rw[List.length_set];exact hhl
 have hhd2:(hs.set i (hZ ⟨a.Af,a.cf,a.Ab,a.cb,A5,c5,a.Ao,a.co⟩ {aJ l i with inn:=(aJ l i).inn++ [z]})).getD i default=hZ ⟨a.Af,a.cf,a.Ab,a.cb,A5,c5,a.Ao,a.co⟩ {aJ l i with inn:=(aJ l i).inn++ [z]} :=nT (by omega) _ _
 refine af (a8 (fun w hw=>(SF.hmc (SF.own (A:=A) (c:=c) hhl2 fc) hi hhd2) w hw 4 _ rfl) rfl rfl ar) rfl rfl ?_
 refine rn 1 [6,8,9,37] rfl<|ae<|aw rfl (fun h1=>?_) (fun h1=>?_)
 ·have h1:(aJ l i).status=1:=h1
  refine aa<|rn 3 [6,8,40] rfl<|ag (kZ (α:=ec) (A:=A) (c:=c) (m:=n) (f:=4) (us:= [.int .i64 0]) (hZ ⟨a.Af,a.cf,a.Ab,a.cb,A5,c5,a.Ao,a.co⟩ (eO (aJ l i) z)) default (List.set_set ..).symm fc hi (m9 ⟨by unfold eO;dsimp only;rw[if_pos h1];decide,hI.2⟩) aI rfl rfl rfl rfl rfl rfl (by rw[hhd2];unfold eO;rw[if_pos h1];rfl) rfl) rfl rfl (fun _ _=>?_)
  refine ae<|ac<|aa<|af (aQ (vs:= [_]) fc bT aU rfl rfl (by rfl) rfl) rfl rfl ?_
  refine ag (aH _ fc aU rfl rfl rfl rfl rfl (by rfl) rfl (by rfl)) rfl rfl (fun _ _=>?_)
  refine rn 1 [6,7] rfl<|ae<|au<|bD EV (dp (cs:= [_]) fc bT aU rfl) (aq rfl) ?_
  intro w hw
  refine⟨(A,c),trivial,by rw[decide_eq_false h10,hrn];rfl,?_⟩
  rw[hrn,e]
  exact(hA.back (.slice A n c) ⟨a.Af,a.cf,a.Ab,a.cb,A5,c5,a.Ao,a.co⟩ (eO (aJ l i) z) _ _ (hw.msub (.s fc (.s fc (.s fc (.s fc (.s fc (.s fc .r)))))))).msub ms
 have h1:¬(aJ l i).status=1:=h1
 have e1:eO (aJ l i) z= {aJ l i with inn:=(aJ l i).inn++ [z]} :=by unfold eO;rw[if_neg h1]
 refine ax (ap ?_)
 refine ac<|aa<|af (aQ (vs:= [_]) fc bT aU rfl rfl (by rfl) rfl) rfl rfl ?_
 refine ag (aH _ fc aU rfl rfl rfl rfl rfl (by rfl) rfl (by rfl)) rfl rfl (fun _ _=>?_)
 refine rn 1 [6,7] rfl<|ae<|au<|bD EV (dp (cs:= [_]) fc bT aU rfl) (aq rfl) ?_
 intro w hw
 refine⟨(A,c),trivial,by rw[decide_eq_false h10,hrn];rfl,?_⟩
 rw[hrn,e,e1]
 exact(hA.back (.slice A n c) ⟨a.Af,a.cf,a.Ab,a.cb,A5,c5,a.Ao,a.co⟩ {aJ l i with inn:=(aJ l i).inn++ [z]} _ _ (hw.msub (.s fc (.s fc (.s fc (.s fc (.s fc (.s fc .r)))))))).msub ms
end
end Go.Proofs.YtpacloheigifkaaGreat
