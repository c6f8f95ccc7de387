/- Texts of one proof, one behind the other: lemmas alone. -/
import Derived.Test.YthfkmcbblnbfaaaGreatDoorM0B
import Derived.Tactics
import Derived.Tactics2
import Derived.Laws.Pointers
import Derived.Test.YthfkmcbblnbfaaaGreatDoorM34B
import Derived.Test.YthfkmcbblnbfaaaGreatDoorM21B
import Derived.Test.YthfkmcbblnbfaaaGreatDoorM19B

namespace Go.Proofs.YthfkmcbblnbfaaaGreatDoor
set_option maxRecDepth 100000
set_option maxHeartbeats 16000000
open Go.RowKit
section
theorem tZ (why:Int) (w:World):(binOp .neq 20 (.iface 213 (.int .i64 why)) .nilIface).run Tryz.prog w= .ok (.bool true) w:=by kernel_rfl
theorem w4 (w:World):(binOp .neq 20 .nilIface .nilIface).run Tryz.prog w= .ok (.bool false) w:=by kernel_rfl
theorem pX (why:Int) (w:World):(Instr.typeAssert (.iface 213 (.int .i64 why)) 20 213 true).run Tryz.prog w= .ok (.tuple #[.int .i64 why,.bool true]) w:=by kernel_rfl
section
variable {B:Nat} {w0:World} {H:List aq}
theorem yW (g : Nat) (why : Int) (w : World) (hw : Cw B w0 (ah g [.int .i64 0] 213 :: H) w) :
    CallsD Tryz.prog 215 #[.pointer (some ⟨g, 0, none⟩)] (.panicking (kU why)) w fun e u' w' => (∃ v, e = .returned v) /\ settle u' = .returning /\ Cw B w0 (ah g [.int .i64 why] 213 :: H) w' := by
  refine callsD_of_wpS Tryz.func215 rfl fun c₀ cs hu => ?_
  apply wpS_seq
  apply wpS_region
  simp [wpOpsS, go_sem, recoverD, hu, Tryz.ntmps215, Exit.thenS, kU]
  refine wpS_of_wp ?_
  refine (show CW Tryz.prog ⟨16, []⟩ B w0 _ _ [(0, .pointer (some ⟨g, 0, none⟩)), (1, .iface 213 (.int .i64 why))] (ah g [.int .i64 0] 213 :: H) from ?_) _ w ?_ hw
  · refine aa ?_
    refine sE (sM rfl rfl rfl (tZ why) (fun _ => rfl)) <| aa ?_
    refine bx rfl <| aa ?_
    refine sE (we (pX why) rfl rfl) <| aa ?_
    refine dM (t := 13) (v' := .bool false) rfl (rfl) ?_
    refine di rfl <| aa ?_
    intro a w hf hw
    refine ⟨hf.2.1, _, rfl, .tuple #[], ?_, ⟨_, rfl⟩, rfl, hw.msub ms⟩
    simp [results, Tryz.results215]
  · refine ⟨by simp, rfl, fun t v e => ?_⟩
    simp only [lk] at e
    split at e
    · rename_i h
      have h := bA h
      subst h
      injection e with e
      subst e
      exact ⟨by show _ < 16; decide, by simp⟩
    · split at e
      · rename_i h
        have h := bA h
        subst h
        injection e with e
        subst e
        exact ⟨by show _ < 16; decide, by simp⟩
      · cases e
theorem mr (g : Nat) (v0 : Value) (w : World) (hw : Cw B w0 (ah g [v0] 213 :: H) w) :
    CallsD Tryz.prog 215 #[.pointer (some ⟨g, 0, none⟩)] .returning w fun e u' w' => (∃ v, e = .returned v) /\ u' = .returning /\ Cw B w0 (ah g [v0] 213 :: H) w' := by
  refine callsD_of_wpS Tryz.func215 rfl fun c₀ cs hu => ?_
  apply wpS_seq
  apply wpS_region
  simp [wpOpsS, go_sem, recoverD, hu, Tryz.ntmps215, Exit.thenS]
  refine wpS_of_wp ?_
  refine (show CW Tryz.prog ⟨16, []⟩ B w0 _ _ [(0, .pointer (some ⟨g, 0, none⟩)), (1, .nilIface)] (ah g [v0] 213 :: H) from ?_) _ w ?_ hw
  · refine aa ?_
    refine sE (sM rfl rfl rfl w4 (fun _ => rfl)) <| aa ?_
    refine dM (t := 6) (v' := .bool false) rfl (rfl) ?_
    refine di rfl <| aa ?_
    intro a w hf hw
    refine ⟨hf.2.1, .returning, ?_, .tuple #[], ?_, ⟨_, rfl⟩, rfl, hw.msub ms⟩
    · rw [← hu]
    · simp [results, Tryz.results215]
  · refine ⟨by simp, rfl, fun t v e => ?_⟩
    simp only [lk] at e
    split at e
    · rename_i h
      have h := bA h
      subst h
      injection e with e
      subst e
      exact ⟨by show _ < 16; decide, by simp⟩
    · split at e
      · rename_i h
        have h := bA h
        subst h
        injection e with e
        subst e
        exact ⟨by show _ < 16; decide, by simp⟩
      · cases e
end
end
section
structure ud (fs:List ai) (m:ar) (li:List au) (x:au) (kf:Nat):Prop where
 fr:m.frames=li++ [x]
 fn:x.func=kf
 hkf:kf<fs.length
 pc:0<=x.pc/\x.pc<(aj fs kf).code.length
 nd:nS fs m.blocks.length {x with pc:=x.pc+1} (aY (aj fs kf).code x.pc.toNat)
 bl:dd m.blocks=0
 sl:x.stack.length<=900
 st:∀y∈li,y.stack.length<=1000
 ol:m.out.length<=1000
 n6:li.length<=1000
 oa:ay (aY (aj fs kf).code x.pc.toNat).a
 cl:(aj fs kf).code.length<=1000
def En:(ar×MA)⊕Int->Int
 | .inl _=>0
 | .inr why=>why
def G3:(ar×MA)⊕Int->Int⊕ar
 | .inl r=> .inr r.1
 | .inr why=> .inl why
def He (u:MA) (m:ar):List Value:= [.slice u.Af m.frames.length u.cf,.slice u.Ab m.blocks.length u.cb,.slice u.Ai m.inn.length u.ci,.slice u.Ao m.out.length u.co,.int .i64 m.status,.int .i64 m.trap]
def Hb (u:MA) (m:ar):List aq:= [af (.slice u.Af m.frames.length u.cf) m.frames,af (.slice u.Ab m.blocks.length u.cb) m.blocks,af (.slice u.Ai m.inn.length u.ci) m.inn,af (.slice u.Ao m.out.length u.co) m.out]
def Eo (gd:Nat) (pv:Value) (T:TypeId) (H:List aq):(ar×MA)⊕Int->List aq
 | .inl r=>ah gd [.slice r.2.Af r.1.frames.length r.2.cf,.slice r.2.Ab r.1.blocks.length r.2.cb,.slice r.2.Ai r.1.inn.length r.2.ci,.slice r.2.Ao r.1.out.length r.2.co,.int .i64 r.1.status,.int .i64 r.1.trap,pv] T::
   af (.slice r.2.Af r.1.frames.length r.2.cf) r.1.frames::af (.slice r.2.Ab r.1.blocks.length r.2.cb) r.1.blocks::af (.slice r.2.Ai r.1.inn.length r.2.ci) r.1.inn::af (.slice r.2.Ao r.1.out.length r.2.co) r.1.out::H
 | .inr _=>H
theorem ym {α β:Type} {f:α->β} {l:List α} {a:List β} {b:β} (h:l.map f=a++ [b]):∃l' q,l=l'++ [q]/\l'.map f=a/\f q=b:=by
 rcases List.eq_nil_or_concat l with h1 | ⟨l',q,h1⟩
 ·rw[h1] at h;simp at h
 have h1:l=l'++ [q]:=by rw[h1];simp
 subst h1
 rw[dw] at h
 obtain⟨h2,h3⟩:=List.append_inj' h rfl
 simp at h3
 exact⟨l',q,rfl,h2,h3⟩
section
variable {B:Nat} {w0:World} {H:List aq}
theorem DR {P:Program} {n:NF} {Q:Exit->Act->World->Prop} {env:be} {x:Code} {H':List aq} {A:Option Addr} {c:Nat} {li:List au} {y:au} (hp:bu H (af (.slice A (li++ [y]).length c) (li++ [y])) H')
  (h:∀(l:List (ap×au)) (Al As:Option Addr) (cl cs:Nat),l.map Prod.snd=li->eD l->CW P n B w0 x Q env (af (.slice A (li++ [y]).length c) (l.map Prod.fst++ [(⟨y.func,y.pc,.slice Al y.locals.length cl,.slice As y.stack.length cs⟩:ap)])::af (.slice As y.stack.length cs) y.stack::af (.slice Al y.locals.length cl) y.locals::cL l::H')) :
  CW P n B w0 x Q env H:=by
 refine yU hp fun l hl hok=>?_
 obtain⟨l',⟨h0,y'⟩,rfl,hl',hy⟩:=ym hl
 have hy:y'=y:=hy
 subst hy
 have hok3:h0.func=y'.func/\h0.pc=y'.pc:=hok (h0,y') (by simp)
 obtain⟨a1,a2,hlv,hsv⟩:=h0
 obtain⟨e1,e2⟩:=hok3
 have e1:a1=y'.func:=e1
 have e2:a2=y'.pc:=e2
 subst e1 e2
 refine dc (fun w hw=>sX (hw.msub (T:=cL (l'++ [(⟨y'.func,y'.pc,hlv,hsv⟩,y')])::af (.slice A (li++ [y']).length c) ((l'++ [((⟨y'.func,y'.pc,hlv,hsv⟩:ap),y')]).map Prod.fst)::H') ms)) ?_
 refine fB (fun w hw=>hw.oform (v:=hsv) (xs:=y'.stack) .b) ?_
 rintro⟨As,cs,rfl⟩
 refine fB (fun w hw=>hw.oform (v:=hlv) (xs:=y'.locals) .a) ?_
 rintro⟨Al,cl,rfl⟩
 simp only[dw,cZ,fS]
 refine dc (fun w hw=>?_) (h l' Al As cl cs hl' hok.left)
 exact hw.msub ms
theorem yj (gd : Nat) (u : MA) (m : ar) (Ap : Option Addr) (cp : Nat) (fs : List ai) (hp : aU w0 B (.slice Ap fs.length cp) fs) (li0 : List au) (x : au) (kf : Nat) (hS : ud fs m li0 x kf) (w : World)
    (hw : Cw B w0 (ah gd [.slice u.Af m.frames.length u.cf, .slice u.Ab m.blocks.length u.cb, .slice u.Ai m.inn.length u.ci, .slice u.Ao m.out.length u.co, .int .i64 m.status, .int .i64 m.trap, .slice Ap fs.length cp] 212 ::
      af (.slice u.Af m.frames.length u.cf) m.frames :: af (.slice u.Ab m.blocks.length u.cb) m.blocks :: af (.slice u.Ai m.inn.length u.ci) m.inn :: af (.slice u.Ao m.out.length u.co) m.out :: H) w) :
    Calls Tryz.prog 161 #[.pointer (some ⟨gd, 0, none⟩)] w fun e w' => ∃ g, kV fs m = G3 g /\ e = .returned (.int .i64 (En g)) /\ Cw B w0 (Eo gd (.slice Ap fs.length cp) 212 H g) w' := by
  obtain ⟨hfr, hfn, hkf, hpc, hnd, hbl, hsl, hst, hol, hn6, hoa, hcl⟩ := hS
  obtain ⟨fr, bl, inn, out, st, tr⟩ := m
  obtain ⟨xf, xp, xl, xs⟩ := x
  have hfr : fr = li0 ++ [⟨xf, xp, xl, xs⟩] := hfr
  subst hfr
  have hfn : xf = kf := hfn
  subst hfn
  have hpc : 0 <= xp /\ xp < (aj fs kf).code.length := hpc
  have hsl2 : xs.length <= 900 := hsl
  have hbl2 : dd bl = 0 := hbl
  have hol2 : out.length <= 1000 := hol
  have hoa2 : ay (aY (aj fs kf).code xp.toNat).a := hoa
  have hnd2 : nS fs bl.length ⟨kf, xp + 1, xl, xs⟩ (aY (aj fs kf).code xp.toNat) := hnd
  have hlen : (li0 ++ [(⟨kf, xp, xl, xs⟩ : au)]).length = li0.length + 1 := by simp
  have hopT : dS fs ⟨li0 ++ [⟨kf, xp, xl, xs⟩], bl, inn, out, st, tr⟩ = aY (aj fs kf).code xp.toNat := by
    unfold dS gP
    simp
  have hstep : kV fs ⟨li0 ++ [⟨kf, xp, xl, xs⟩], bl, inn, out, st, tr⟩ = if (aY (aj fs kf).code xp.toNat).c = 21 then
      (if inn = [] then .inr ⟨li0 ++ [⟨kf, xp, xl, xs⟩], bl, inn, out, 1, tr⟩
      else .inr ⟨li0 ++ [⟨kf, xp + 1, xl, xs ++ [cI (inn.getD 0 0)]⟩], bl, inn.drop 1, out, 0, tr⟩)
      else eY fs ⟨li0 ++ [⟨kf, xp, xl, xs⟩], bl, inn, out, st, tr⟩ li0 ⟨kf, xp + 1, xl, xs⟩ (aY (aj fs kf).code xp.toNat) := by
    unfold kV
    rw [hopT]
    unfold gP
    simp
  obtain ⟨o, ho⟩ : ∃ o, aY (aj fs kf).code xp.toNat = o := ⟨_, rfl⟩
  rw [ho] at hnd2 hoa2 hstep
  obtain ⟨A1, c1, A2, c2, hlo, hco, hi, hcell⟩ := hp.fn hkf
  refine wI Tryz.func161 rfl Tryz.ntmps161 rfl hw ?_
  dsimp only
  refine DR fc fun li Al As cl cs hli hok => ?_
  rw [hlen]
  subst hli
  rw [aL]
  have hli9 : li.length <= 1000 := by rw [aL] at hn6; exact hn6
  have hst : ∀ q ∈ li, q.2.stack.length <= 1000 := fun q hq => hst q.2 (List.mem_map_of_mem hq)
  obtain ⟨k, hk⟩ : ∃ k, li.length = k := ⟨_, rfl⟩
  rw [hk]
  have hlm : (li.map Prod.fst).length = k := by rw [aL]; exact hk
  have hlk : ∀ h : ap, (li.map Prod.fst ++ [h]).length = k + 1 := fun h => by rw [ag, hlm]; rfl
  refine fB (fun w hw => nL hw .a) ?_
  intro hwf
  have hwf : ap.wf _ := hwf
  have hxp1 : ay (xp + 1) := by unfold ay; omega
  have bp := bt hp
  have bc := bt hco
  obtain ⟨pn, hpn⟩ : ∃ pn : Nat, xp = pn := ⟨xp.toNat, by omega⟩
  subst hpn
  rw [a6] at ho
  have hpn : pn < (aj fs kf).code.length := by omega
  refine aa ?_
  refine fun g1 _ => aa ?_
  refine zQ rfl rfl rfl rfl ?_
  refine aa ?_
  refine cd rfl um (fun w hw => kI gd k u.cf u.Af (li.map Prod.fst ++ [(⟨kf, pn, .slice Al xl.length cl, .slice As xs.length cs⟩ : ap)]) w (dC fc rfl w hw) (gZ hw fc) (SF.at_ (SF.own (hlk _) fc) hw)) <| aa ?_
  refine bM [0, 3, 6, 9, 12, 15, 18, 21, 24, 27, 30, 33, 36, 39, 42, 45, 48, 51, 56, 59] [19] rfl <| aa ?_
  refine tE rfl (cB (eJ (j := 0) hlm fc rfl) rfl rfl bT) ?_
  refine tE rfl (bS (k := kf) et eQ (.ro hp) (by omega) rfl rfl rfl) <| aa ?_
  refine tE rfl (cB (fun w hw => hcell _ w hw 3 _ rfl) rfl rfl D7) <| aa ?_
  refine tE rfl (cB (eJ (j := 1) hlm fc rfl) rfl rfl bT) ?_
  refine tE rfl (bS (k := pn) dD jx (.ro hco) (by omega) rfl rfl rfl) ?_
  refine tE rfl (gU (cs := [_, _]) (SF.op (.ro hco) (by omega)) rfl rfl Tryz.isAgg86 jx) <| aa ?_
  refine fun g2 _ => aa ?_
  rw [ho]
  refine gA rfl (fun h21 => ?_) (fun h21 => ?_)
  · rw [if_pos h21] at hstep
    rcases inn with _ | ⟨z, r⟩
    · rw [if_pos rfl] at hstep
      refine aa ?_
      refine bU rfl Tryz.call217 (fun w hw => uJ gd (.slice u.Af (k + 1) u.cf) (.slice u.Ab bl.length u.cb) (.slice u.Ao out.length u.co) (.int .i64 tr) (.slice Ap fs.length cp) u.Ai u.ci st w (hw.msub (.s fc .r))) (fun _ _ => aa ?_)
      refine dM (t := 30) (v' := .bool false) rfl (rfl) ?_
      refine di rfl ?_
      refine jc (iV ?_)
      refine cR ?_
      refine bJ ?_
      refine ed (eo _ fc GF rfl rfl rfl rfl rfl (by rfl) rfl (by rfl)) rfl rfl (fun _ _ => ?_)
      refine bE ?_
      refine pO (oy ?_)
      refine p8 (fun _ => by simp [go_sem]) (fun w hw => mr g1 _ w (hw.perm fc)) uj (nD .a zu rfl) (fun w hw => ?_)
      exact ⟨.inl (⟨li.map Prod.snd ++ [(⟨kf, pn, xl, xs⟩ : au)], bl, [], out, 1, tr⟩, u), hstep, rfl, eM (h := ⟨kf, pn, .slice Al xl.length cl, .slice As xs.length cs⟩) (x := ⟨kf, pn, xl, xs⟩) hk hok ⟨rfl, rfl⟩ (hw.msub ms)⟩
    · rw [if_neg (by simp)] at hstep
      refine aa ?_
      refine bU rfl Tryz.call217 (fun w hw => uI gd k (li.map Prod.fst) hlm u.Af As u.Ai u.cf cs u.ci (.slice u.Ab bl.length u.cb) (.slice u.Ao out.length u.co) (.int .i64 tr) (.slice Ap fs.length cp) st kf pn (.slice Al xl.length cl) xs z r w (by omega) (hw.msub (.s fc (.s fc (.s fc (.s fc .r)))))) (fun ⟨⟨A5, d5⟩, ⟨A6, d6⟩⟩ _ => ?_)
      refine aT ?_
      refine dM (t := 30) (v' := .bool true) rfl (rfl) ?_
      refine bx rfl <| aa ?_
      refine eB rfl (eJ (v := .int .i64 (pn : Int)) (j := 1) hlm fc rfl) ?_
      refine eF (pf rfl rfl rfl (by omega)) rfl rfl ?_
      refine aC ?_
      refine aC ?_
      refine oE (lI (α := ap) ⟨kf, pn, .slice Al xl.length cl, .slice A5 (xs ++ [cI z]).length d5⟩ ⟨kf, (pn : Int) + 1, .slice Al xl.length cl, .slice A5 (xs ++ [cI z]).length d5⟩ hlm fc ⟨⟨hwf.1.1, hxp1⟩, rfl, rfl⟩ bY rfl rfl rfl rfl rfl rfl rfl rfl) (fun _ _ => ?_)
      refine bE ?_
      refine cR ?_
      refine bJ ?_
      refine ed (eo _ fc GF rfl rfl rfl rfl rfl (by rfl) rfl (by rfl)) rfl rfl (fun _ _ => ?_)
      refine bE ?_
      refine pO (oy ?_)
      refine p8 (fun _ => by simp [go_sem]) (fun w hw => mr g1 _ w (hw.perm fc)) uj (nD .a zu rfl) (fun w hw => ?_)
      exact ⟨.inl (⟨li.map Prod.snd ++ [(⟨kf, (pn : Int) + 1, xl, xs ++ [cI z]⟩ : au)], bl, r, out, 0, tr⟩, ⟨u.Af, u.cf, u.Ab, u.cb, A6, d6, u.Ao, u.co⟩), hstep, rfl, eM (h := ⟨kf, (pn : Int) + 1, .slice Al xl.length cl, .slice A5 (xs ++ [cI z]).length d5⟩) (x := ⟨kf, (pn : Int) + 1, xl, xs ++ [cI z]⟩) hk hok ⟨rfl, rfl⟩ (hw.msub ms)⟩
  · rw [if_neg h21] at hstep
    refine aa ?_
    refine eB rfl (eJ (v := .int .i64 (pn : Int)) (j := 1) hlm fc rfl) ?_
    refine eF (pf rfl rfl rfl (by omega)) rfl rfl ?_
    refine aC ?_
    refine aC ?_
    refine oE (lI (α := ap) ⟨kf, pn, .slice Al xl.length cl, .slice As xs.length cs⟩ ⟨kf, (pn : Int) + 1, .slice Al xl.length cl, .slice As xs.length cs⟩ hlm fc ⟨⟨hwf.1.1, hxp1⟩, rfl, rfl⟩ bY rfl rfl rfl rfl rfl rfl rfl rfl) (fun _ _ => aa ?_)
    refine jk (gy rfl rfl rfl Tryz.call218 (fun w hw => DQ (H := ah g1 [.int .i64 0] 213 :: H) gd k li hk hok u.Af Al As Ap u.cf cl cs cp u ⟨li.map Prod.snd ++ [(⟨kf, pn, xl, xs⟩ : au)], bl, inn, out, st, tr⟩ kf ((pn : Int) + 1) xl xs o fs hp hnd2 hbl2 hsl2 hol2 (by omega) hst hoa2 w (hw.msub ms))) rfl rfl (fun ch a w hf hp' => by obtain ⟨⟨why, h1, rfl⟩, h2⟩ := hp'; exact th hf (fun _ => by simp [go_sem]) (yW g1 why w (h2.perm fc)) uj (nD .a zu rfl) (fun w hw => ⟨.inr why, hstep.trans h1, rfl, hw.msub ms⟩)) (fun ⟨m', u'⟩ hr => ?_)
    try dsimp only
    refine bE ?_
    refine cR ?_
    refine bJ ?_
    refine ed (eo _ fc GF rfl rfl rfl rfl rfl (by rfl) rfl (by rfl)) rfl rfl (fun _ _ => ?_)
    refine bE ?_
    refine pO ?_
    refine p8 (fun _ => by simp [go_sem]) (fun w hw => mr g1 _ w (hw.perm fc)) uj (nD .a zu rfl) (fun w hw => ?_)
    exact ⟨.inl (m', u'), hstep.trans hr, rfl, hw.msub ms⟩
end
end
section
theorem xx {fs:List ai} {m:ar} {why:Int} (h:kV fs m= .inl why):1<=why/\why<=5:=by
 unfold kV at h
 split at h
 ·split at h <;> cases h
 have:=Bh h
 omega
theorem xA {fs:List ai} {m:ar} {why:Int} (h1:¬m.status=2) (h2:¬m.status=3) (h:kV fs m= .inl why):en fs m= {m with status:=3,trap:=why} :=by
 unfold en
 rw[if_neg (fun h=>h.elim h1 h2),h]
theorem xz {fs:List ai} {m m':ar} (h1:¬m.status=2) (h2:¬m.status=3) (h:kV fs m= .inr m'):en fs m=m':=by
 unfold en
 rw[if_neg (fun h=>h.elim h1 h2),h]
theorem CB (Ap:Option Addr) (cp:Nat) (fs:List ai) (a:MA) (m m2:ar) (hm2:en fs m=m2) (w:World) (hs:Sl w (.slice Ap fs.length cp) fs) (hm:d9 w.heap.size w a m) (hfit:BD m) (hS:¬(m.status=2\/m.status=3)->∃li x kf,ud fs m li x kf) :
  Calls Tryz.prog 114 #[.agg #[.slice Ap fs.length cp],.agg #[.slice a.Af m.frames.length a.cf,.slice a.Ab m.blocks.length a.cb,.slice a.Ai m.inn.length a.ci,.slice a.Ao m.out.length a.co,.int .i64 m.status,.int .i64 m.trap]] w fun e w'=> ∃g:MA,True/\
   e= .returned (.agg #[.slice g.Af m2.frames.length g.cf,.slice g.Ab m2.blocks.length g.cb,.slice g.Ai m2.inn.length g.ci,.slice g.Ao m2.out.length g.co,.int .i64 m2.status,.int .i64 m2.trap])/\
   Cw w.heap.size w [af (.slice g.Af m2.frames.length g.cf) m2.frames,af (.slice g.Ab m2.blocks.length g.cb) m2.blocks,af (.slice g.Ai m2.inn.length g.ci) m2.inn,af (.slice g.Ao m2.out.length g.co) m2.out] w':=by
 refine enter Tryz.func114 rfl Tryz.ntmps114 rfl<|aa ?_
 refine fun g1 _=>aa ?_
 refine fun g2 _=>aa ?_
 refine fun g3 _=>dq 11 (fun h1=>?_) (fun h1=>?_)
 ·have h1:=of_decide_eq_true h1
  have e:m=m2:=by rw[<-hm2];unfold en;rw[if_pos (.inl h1)]
  subst e
  refine aa ?_
  refine bx rfl<|aa ?_
  refine eI rfl uo (fun w hw=>kD a m w (d9.ro hw hm) hfit) (fun g _=>aa ?_)
  intro w hw
  exact⟨g,trivial,rfl,hw.msub ms⟩
 have h1:=of_decide_eq_false h1
 refine an (fun h2=>?_) (fun h2=>?_)
 ·have e:m=m2:=by rw[<-hm2];unfold en;rw[if_pos (.inr h2)]
  subst e
  refine aa ?_
  refine eI rfl uo (fun w hw=>kD a m w (d9.ro hw hm) hfit) (fun g _=>aa ?_)
  intro w hw
  exact⟨g,trivial,rfl,hw.msub ms⟩
 obtain⟨li,x,kf,hS⟩:=hS (fun h=>h.elim h1 h2)
 refine aa ?_
 refine bM [0,6,5,9,14,16] [4,5] rfl<|aa ?_
 refine lF rfl rfl uo (fun w hw=>kD a m w (d9.ro hw hm) hfit) (fun g _=>aa ?_)
 refine fun g4 _=>aa ?_
 refine bU rfl Tryz.call161 (fun w hw=>yj g4 g m Ap cp fs hs li x kf hS w (hw.msub (.s fc (.s fc (.s fc (.s fc (.s fc .r))))))) (fun g0 hg=>aa ?_)
 rcases g0 with ⟨m',u'⟩ | why
 ·have e:m'=m2:=by rw[<-hm2];exact(xz h1 h2 hg).symm
  subst e
  dsimp only[En,Eo]
  refine dM (t:=26) (v':= .bool false) rfl (rfl) ?_
  refine di rfl<|aa ?_
  intro w hw
  exact⟨u',trivial,rfl,hw.msub ms⟩
 have e:=xA h1 h2 hg
 have hwhy:=xx hg
 rw[hm2] at e
 subst e
 dsimp only[En,Eo]
 refine dM (t:=26) (v':= .bool true) rfl (by show Value.bool (!decide (why=0))= .bool true;rw[decide_eq_false (show¬why=0 by omega)];rfl) ?_
 refine bx rfl<|aa ?_
 refine eI rfl uo (fun w hw=>kD a m w (d9.ro hw hm) hfit) (fun v _=>aa ?_)
 refine fun g5 _=>aa ?_
 intro w hw
 exact⟨v,trivial,rfl,hw.msub ms⟩
end
end Go.Proofs.YthfkmcbblnbfaaaGreatDoor
