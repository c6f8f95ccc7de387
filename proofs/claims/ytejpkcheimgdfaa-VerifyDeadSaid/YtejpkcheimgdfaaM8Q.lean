/- Texts of one proof, one behind the other: lemmas alone. -/
import Derived.Test.YtejpkcheimgdfaaM7Q
import Derived.Test.YtejpkcheimgdfaaM4Q
import Derived.Test.YtejpkcheimgdfaaM6Q
import Derived.Test.YtejpkcheimgdfaaM3Q
import Derived.Test.YtejpkcheimgdfaaM5Q

-- Fl5
/- Flow: all that may be come to; Reach. -/
namespace Go.Proofs.Ytejpkcheimgdfaa
open Go.RowKit

/-- How many are not met. -/
def unmet (m : List Bool) : Nat := (List.range m.length).countP fun i => !m.getD i false
theorem countP_lt {p q : Nat → Bool} : ∀ {l : List Nat} {x0 : Nat}, (∀ x ∈ l, p x = true → q x = true) → x0 ∈ l → q x0 = true → p x0 = false → l.countP p < l.countP q
  | [], _, _, h, _, _ => by simp at h
  | a :: l, x0, h, hx, h1, h2 => by
    rw [List.countP_cons, List.countP_cons]
    rcases List.mem_cons.1 hx with e | hx
    · subst e
      have := List.countP_mono_left (l := l) fun x hx => h x (List.mem_cons_of_mem _ hx)
      simp only [h1, h2, if_true, Bool.false_eq_true, if_false]
      omega
    · have := countP_lt (fun x hx => h x (List.mem_cons_of_mem _ hx)) hx h1 h2
      have h5 : (if p a = true then 1 else 0) ≤ (if q a = true then 1 else 0) := by
        by_cases ha : p a = true
        · rw [if_pos ha, if_pos (h a (by simp) ha)]; exact Nat.le_refl _
        · rw [if_neg ha]; exact Nat.zero_le _
      omega
/-- m is met where m0 is. -/
def Met (m0 m : List Bool) : Prop := m.length = m0.length ∧ ∀ i, m0.getD i false = true → m.getD i false = true
theorem Met.refl (m : List Bool) : Met m m := ⟨rfl, fun _ h => h⟩
theorem Met.trans {a b c : List Bool} (h1 : Met a b) (h2 : Met b c) : Met a c := ⟨h2.1.trans h1.1, fun i h => h2.2 i (h1.2 i h)⟩
theorem Met.unmet {a b : List Bool} (h : Met a b) : unmet b ≤ unmet a := by
  unfold Proofs.Ytejpkcheimgdfaa.unmet
  rw [h.1]
  refine List.countP_mono_left fun x _ hx => ?_
  cases e : a.getD x false
  · rfl
  · rw [h.2 x e] at hx; exact hx
theorem set_getD (m : List Bool) (k i : Nat) (hk : k < m.length) : (m.set k true).getD i false = if i = k then true else m.getD i false := by
  rw [List.getD_eq_getElem?_getD, List.getD_eq_getElem?_getD, List.getElem?_set]
  by_cases h : k = i
  · subst h; rw [if_pos rfl, if_pos hk, if_pos rfl]; rfl
  · rw [if_neg h, if_neg (fun e => h e.symm)]
theorem Met.set {m : List Bool} {k : Nat} (hk : k < m.length) : Met m (m.set k true) := ⟨by simp, fun i h => by rw [set_getD m k i hk]; split; rfl; exact h⟩
theorem unmet_set {m : List Bool} {k : Nat} (hk : k < m.length) (h : m.getD k false = false) : Proofs.Ytejpkcheimgdfaa.unmet (m.set k true) < Proofs.Ytejpkcheimgdfaa.unmet m := by
  unfold Proofs.Ytejpkcheimgdfaa.unmet
  rw [List.length_set]
  refine countP_lt (x0 := k) (fun x _ hx => ?_) (List.mem_range.2 hk) (by rw [h]; rfl) (by rw [set_getD m k k hk, if_pos rfl]; rfl)
  rw [set_getD m k x hk] at hx
  split at hx
  · cases hx
  · exact hx
/-- What a visit does. -/
structure VP (l : List MOp) (m0 : List Bool) (pc : Nat) (m : List Bool) : Prop where
  met : Met m0 m
  self : m.getD pc false = true
  new : ∀ i, m.getD i false = true → m0.getD i false = false → RchF l pc i ∧ (i < l.length → ∀ q : Nat, goesOn (opAt l i) i q = true → m.getD q false = true)
/-- .. with the first j of those where it goes on visited. -/
structure LP (l : List MOp) (m0 : List Bool) (pc : Nat) (L : List Int) (j : Nat) (m : List Bool) : Prop where
  le : j ≤ L.length
  met : Met m0 m
  self : m.getD pc false = true
  new : ∀ i, m.getD i false = true → m0.getD i false = false → RchF l pc i ∧ (i ≠ pc → i < l.length → ∀ q : Nat, goesOn (opAt l i) i q = true → m.getD q false = true)
  old : ∀ i, i < j → m.getD (L.getD i 0).toNat false = true
section
variable {l : List MOp} {m0 m m2 : List Bool} {pc j : Nat}
theorem VP.old_ (h : m.getD pc false = true) : VP l m pc m := ⟨.refl _, h, fun i h1 h2 => by rw [h1] at h2; cases h2⟩
theorem LP.start (hp : pc < m0.length) (h : m0.getD pc false = false) (L : List Int) : LP l m0 pc L 0 (m0.set pc true) := by
  refine ⟨Nat.zero_le _, .set hp, by rw [set_getD _ _ _ hp, if_pos rfl], fun i h1 h2 => ?_, fun i h => absurd h (by omega)⟩
  rw [set_getD _ _ _ hp] at h1
  split at h1
  · rename_i e; subst e; exact ⟨.refl, fun h => absurd rfl h⟩
  · rw [h2] at h1; cases h1
theorem LP.next (h : LP l m0 pc (afterL (opAt l pc) pc) j m) (hp : pc < l.length) (hj : j < (afterL (opAt l pc) pc).length) (h0 : 0 ≤ (afterL (opAt l pc) pc).getD j 0) (hv : VP l m ((afterL (opAt l pc) pc).getD j 0).toNat m2) : LP l m0 pc (afterL (opAt l pc) pc) (j + 1) m2 := by
  have hm := h.met.trans hv.met
  refine ⟨hj, hm, hv.met.2 _ h.self, fun i h1 h2 => ?_, fun i hi => ?_⟩
  · cases e : m.getD i false
    · obtain ⟨h3, h4⟩ := hv.new i h1 e
      refine ⟨?_, fun _ => h4⟩
      refine RchF.trans (.step .refl hp ?_) h3
      have : (afterL (opAt l pc) pc).getD j 0 ∈ afterL (opAt l pc) pc := by rw [List.getD_eq_getElem?_getD, List.getElem?_eq_getElem hj]; exact List.getElem_mem hj
      have := (after_mem _ _ _).1 this
      rw [Int.toNat_of_nonneg h0]
      exact this
    · obtain ⟨h3, h4⟩ := h.new i e h2
      exact ⟨h3, fun a b q c => hv.met.2 _ (h4 a b q c)⟩
  · by_cases e : i = j
    · subst e; exact hv.self
    · exact hv.met.2 _ (h.old i (by omega))
theorem LP.end_ (h : LP l m0 pc (afterL (opAt l pc) pc) (afterL (opAt l pc) pc).length m) : VP l m0 pc m := by
  refine ⟨h.met, h.self, fun i h1 h2 => ?_⟩
  obtain ⟨h3, h4⟩ := h.new i h1 h2
  refine ⟨h3, fun hi q hg => ?_⟩
  by_cases e : i = pc
  · subst e
    have hm := (after_mem _ _ _).2 hg
    obtain ⟨k, hk, ek⟩ := List.getElem_of_mem hm
    have := h.old k hk
    rw [List.getD_eq_getElem?_getD (l := afterL _ _), List.getElem?_eq_getElem hk, Option.getD_some, ek, Int.toNat_natCast] at this
    exact this
  · exact h4 e hi q hg
theorem VP.last (hp : pc < m0.length) (h : m0.getD pc false = false) (hl : ¬ pc < l.length) : VP l m0 pc (m0.set pc true) := by
  have h := LP.start (l := l) hp h []
  refine ⟨h.met, h.self, fun i h1 h2 => ?_⟩
  obtain ⟨h3, h4⟩ := h.new i h1 h2
  exact ⟨h3, fun hi => by by_cases e : i = pc; exact absurd (e ▸ hi) hl; exact h4 e hi⟩
/-- All is met that may be come to. -/
theorem VP.all {n : Nat} (h : VP l (List.replicate n false) 0 m) (_ : n = l.length + 1) (_ : flowE l = 0) (q : Nat) : m.getD q false = true ↔ Rch l q := by
  have h0 : ∀ i, (List.replicate n false).getD i false = false := fun i => by rw [List.getD_eq_getElem?_getD, List.getElem?_replicate]; split <;> rfl
  constructor
  · exact fun hq => (h.new q hq (h0 q)).1
  · intro hr
    induction hr with
    | refl => exact h.self
    | step h1 h2 h3 ih => exact (h.new _ ih (h0 _)).2 h2 _ h3
theorem Rch.le (hf : flowE l = 0) {q : Nat} (h : Rch l q) : q ≤ l.length := by
  cases h with
  | refl => omega
  | step h1 h2 h3 => have := goes_in hf h2 h3; omega
end

set_option maxRecDepth 100000 in
set_option maxHeartbeats 1000000 in
theorem visit_any {B : Nat} {w0 : World} {l : List MOp} {A : Option Addr} {c : Nat} (hs : SlB w0 B (.slice A l.length c) l) (hf : flowE l = 0) (gm gc gv : Nat) (Am : Option Addr) (cm : Nat) (k : Nat) : ∀ (H : List Res) (m : List Bool) (pc : Nat) (z : Int) (w : World), z = pc → m.length = l.length + 1 → pc ≤ l.length → unmet m = k →
    Cw B w0 (RBox gm [.slice Am (l.length + 1) cm] 87 :: RBox gc [.slice A l.length c] 52 :: RBox gv [.func (.func 83) #[] #[.pointer (some ⟨gm, 0, none⟩), .pointer (some ⟨gc, 0, none⟩), .pointer (some ⟨gv, 0, none⟩)]] 106 :: ROw (.slice Am (l.length + 1) cm) m :: H) w →
    Calls Try.prog 83 #[.int .i64 z, .pointer (some ⟨gm, 0, none⟩), .pointer (some ⟨gc, 0, none⟩), .pointer (some ⟨gv, 0, none⟩)] w fun e w' => ∃ m2 : List Bool, VP l m pc m2 ∧ e = .returned (.tuple #[]) ∧
      Cw B w0 (RBox gm [.slice Am (l.length + 1) cm] 87 :: RBox gc [.slice A l.length c] 52 :: RBox gv [.func (.func 83) #[] #[.pointer (some ⟨gm, 0, none⟩), .pointer (some ⟨gc, 0, none⟩), .pointer (some ⟨gv, 0, none⟩)]] 106 :: ROw (.slice Am (l.length + 1) cm) m2 :: H) w' := by
  induction k using Nat.strongRecOn with
  | ind k ih =>
  intro H m pc z w hz hml hpc hk hw
  subst hz
  have b1 := len_bd hs
  refine enter_own Try.func83 rfl Try.ntmps83 rfl hw ?_
  refine cw_seq ?_
  refine cw_seq ?_
  refine cw_region ?_
  refine rw_s (qs_ldb fc Try.isAgg87 rfl rfl (by rfl)) rfl rfl ?_
  refine rw_run tab_ok 1 [(0, _), (1, _), (2, _), (3, _), (7, _), (8, _)] rfl ⟨rfl, rfl, rfl, rfl, rfl, rfl, trivial⟩ ?_
  refine rw_s (qs_idx Try.underlying87 Try.sizeOf4 (.own hml fc) (by omega) rfl rfl rfl) rfl rfl ?_
  refine rw_s (qs_ld (SF.bool (.own hml fc) (by omega)) rfl rfl Try.isAgg4) rfl rfl ?_
  refine rw_end ?_
  refine cw_cond rfl (fun hm => ?_) (fun hm => ?_)
  · have hm : m.getD pc false = true := hm
    refine cw_ret (xw_thenr ?_)
    refine xw_ret0 Try.results83  ?_
    intro w hw
    exact ⟨m, .old_ hm, rfl, hw⟩
  · have hm : m.getD pc false = false := hm
    have hst := LP.start (l := l) (pc := pc) (by omega) hm (afterL (opAt l pc) pc)
    have hun := unmet_set (k := pc) (by omega) hm
    refine cw_skip (xw_then ?_)
    refine cw_seq ?_
    refine cw_region ?_
    refine rw_s (qs_ldb fc Try.isAgg87 rfl rfl (by rfl)) rfl rfl ?_
    refine rw_run tab_ok 1 [(0, _), (2, _), (3, _), (11, _), (12, _)] rfl ⟨rfl, rfl, rfl, rfl, rfl, trivial⟩ ?_
    refine rw_s (qs_idx Try.underlying87 Try.sizeOf4 (.own hml fc) (by omega) rfl rfl rfl) rfl rfl ?_
    refine rw_op (ot_stB (xs' := m.set pc true) rfl fc (by omega) Try.sizeOf4 rfl rfl rfl) rfl rfl (fun _ _ => ?_)
    refine rw_end ?_
    refine cw_seq ?_
    refine cw_region ?_
    refine rw_run tab_ok 1 [(0, _), (2, _), (3, _), (14, _)] rfl ⟨rfl, rfl, rfl, rfl, trivial⟩ ?_
    refine rw_s (qs_ldb fc Try.isAgg52 rfl rfl (by rfl)) rfl rfl ?_
    refine rw_s (qs_len Try.underlying52 rfl rfl) rfl rfl ?_
    refine rw_run tab_ok 1 [(0, _), (2, _), (3, _), (17, _)] rfl ⟨rfl, rfl, rfl, rfl, trivial⟩ ?_
    refine rw_end ?_
    refine cw_condD rfl (fun hlt => ?_) (fun hlt => ?_)
    · have hp : pc < l.length := by omega
      have ha2 := after_len (opAt l pc) pc
      refine cw_seq ?_
      refine cw_region ?_
      refine rw_s (qs_ldb fc Try.isAgg52 rfl rfl (by rfl)) rfl rfl ?_
      refine rw_run tab_ok 1 [(3, _), (18, _), (19, _)] rfl ⟨rfl, rfl, rfl, trivial⟩ ?_
      refine rw_op (ot_c rfl rfl rfl Try.call61 (fun w hw => after_any A c l pc w (hw.ro hs) hp)) rfl rfl (fun ⟨A2, c2⟩ _ => ?_)
      try dsimp only
      refine rw_s (qs_len Try.underlying35 rfl rfl) rfl rfl ?_
      refine rw_run tab_ok 1 [(3, _), (20, _), (21, _), (22, _)] rfl ⟨rfl, rfl, rfl, rfl, trivial⟩ ?_
      refine rw_end ?_
      refine cw_block (cw_loop (fun g : Nat × List Bool => LP l m pc (afterL (opAt l pc) pc) g.1 g.2) (fun g => (afterL (opAt l pc) pc).length - g.1) (fun g => [(3, .pointer (some ⟨gv, 0, none⟩)), (20, .slice A2 (afterL (opAt l pc) pc).length c2), (21, .int .i64 ((afterL (opAt l pc) pc).length : Int)), (22, .int .i64 (g.1 : Int))]) (fun g => [ROw (.slice A2 (afterL (opAt l pc) pc).length c2) (afterL (opAt l pc) pc), RBox gm [.slice Am (l.length + 1) cm] 87, RBox gc [.slice A l.length c] 52, RBox gv [.func (.func 83) #[] #[.pointer (some ⟨gm, 0, none⟩), .pointer (some ⟨gc, 0, none⟩), .pointer (some ⟨gv, 0, none⟩)]] 106, ROw (.slice Am (l.length + 1) cm) g.2] ++ H) (0, m.set pc true) (hst) ⟨rfl, rfl, rfl, rfl, trivial⟩ (fun _ h => h.msub ms) ?_)
      rintro ⟨j, m1⟩ hj'
      try dsimp only
      have hj : LP l m pc (afterL (opAt l pc) pc) j m1 := hj'
      have hjle := hj.le
      refine cw_seq ?_
      refine cw_region ?_
      refine rw_run tab_ok 1 [(3, _), (20, _), (21, _), (22, _), (23, _)] rfl ⟨rfl, rfl, rfl, rfl, rfl, trivial⟩ ?_
      refine rw_end ?_
      refine cw_seq ?_
      refine cw_condD rfl (fun hjl => ?_) (fun hjl => ?_)
      · have hjl2 : j < (afterL (opAt l pc) pc).length := by omega
        have hmem : (afterL (opAt l pc) pc).getD j 0 ∈ afterL (opAt l pc) pc := by rw [List.getD_eq_getElem?_getD, List.getElem?_eq_getElem hjl2]; exact List.getElem_mem hjl2
        have hin := goes_in hf hp ((after_mem _ _ _).1 hmem)
        have hu1 := hj.met
        have hun2 : unmet m1 < k := by
          have h1 : Met (m.set pc true) m1 := ⟨by rw [hu1.1, List.length_set], fun i hi => by
            rw [set_getD _ _ _ (by omega)] at hi
            split at hi
            · rename_i e; rw [e]; exact hj.self
            · exact hu1.2 i hi⟩
          have := h1.unmet
          omega
        refine cw_skip (xw_then ?_)
        refine cw_seq ?_
        refine cw_block ?_
        refine cw_seq ?_
        refine cw_region ?_
        refine rw_s (qs_idx Try.underlying35 Try.sizeOf3 (.own rfl fc) (by omega) rfl rfl rfl) rfl rfl ?_
        refine rw_s (qs_ld (SF.int (.own rfl fc) (by omega)) rfl rfl Try.isAgg3) rfl rfl ?_
        refine rw_run tab_ok 1 [(3, _), (6, _), (20, _), (21, _), (22, _)] rfl ⟨rfl, rfl, rfl, rfl, rfl, trivial⟩ ?_
        refine rw_end ?_
        refine cw_region ?_
        refine rw_s (qs_ldb fc Try.isAgg106 rfl rfl (by rfl)) rfl rfl ?_
        refine rw_run tab_ok 1 [(3, _), (20, _), (21, _), (22, _), (26, _), (27, _)] rfl ⟨rfl, rfl, rfl, rfl, rfl, rfl, trivial⟩ ?_
        refine rw_op (ot_callK rfl rfl rfl Try.call83 (fun w hw => ih _ hun2 (ROw (.slice A2 (afterL (opAt l pc) pc).length c2) (afterL (opAt l pc) pc) :: H) m1 ((afterL (opAt l pc) pc).getD j 0).toNat _ w (Int.toNat_of_nonneg hin.1).symm (by rw [hu1.1]; exact hml) (by omega) rfl (hw.msub ms))) rfl rfl (fun m2 hv => ?_)
        refine rw_endx (xw_blkn (xw_then ?_))
        refine cw_region ?_
        refine rw_s (qs_add rfl rfl rfl (by omega)) rfl rfl ?_
        refine rw_run tab_ok 1 [(3, _), (20, _), (21, _), (22, _)] rfl ⟨rfl, rfl, rfl, rfl, trivial⟩ ?_
        refine rw_round (j + 1, m2) (hj.next hp hjl2 hin.1 hv) (by show _ - _ < _ - _; omega) ⟨rfl, rfl, rfl, rfl, trivial⟩ (fun _ h => h.msub ms)
      · obtain rfl : j = (afterL (opAt l pc) pc).length := by omega
        refine cw_exit (xw_thenx (xw_thenx (xw_blk ?_)))
        refine xw_end0 Try.results83  ?_
        intro w hw
        exact ⟨m1, hj.end_, rfl, hw.msub ms⟩
    · refine cw_skip ?_
      refine xw_end0 Try.results83  ?_
      intro w hw
      exact ⟨m.set pc true, .last (by omega) hm (by omega), rfl, hw.msub ms⟩
end Go.Proofs.Ytejpkcheimgdfaa

-- Fl6
/- Flow: All, Reach; the document's. -/
namespace Go.Proofs.Ytejpkcheimgdfaa
open Go.RowKit

theorem reachR_of {l : List MOp} (h : flowE l = 0) : reachR l = reachL l := by unfold reachR; rw [if_pos h]
theorem reachR_no {l : List MOp} (h : ¬ flowE l = 0) : reachR l = [] := by unfold reachR; rw [if_neg h]
set_option maxRecDepth 100000 in
set_option maxHeartbeats 1000000 in
theorem all_any (A : Option Addr) (c : Nat) (l : List MOp) (w : World) (hs : Sl w (.slice A l.length c) l) (hf : flowE l = 0) :
    Calls Try.prog 58 #[.slice A l.length c] w fun e w' => ∃ g : Option Addr × Nat, True ∧ e = .returned (.slice g.1 (reachL l).length g.2) ∧ Cw w.heap.size w [ROw (.slice g.1 (reachL l).length g.2) (reachL l)] w' := by
  have b1 := len_bd hs
  have h40 := codeErr_len (flowE_zero hf).1
  refine enter Try.func58 rfl Try.ntmps58 rfl ?_
  refine cw_seq ?_
  refine cw_region ?_
  refine rw_op (ot_box rfl rfl rfl) rfl rfl (fun g1 _ => ?_)
  refine rw_run tab_ok 1 [(1, _)] rfl ⟨rfl, trivial⟩ ?_
  refine rw_end ?_
  refine cw_seq ?_
  refine cw_region ?_
  refine rw_s (qs_ldb fc Try.isAgg52 rfl rfl (by rfl)) rfl rfl ?_
  refine rw_s (qs_len Try.underlying52 rfl rfl) rfl rfl ?_
  refine rw_s (qs_add rfl rfl rfl (by omega)) rfl rfl ?_
  refine rw_op (ot_make (α := Bool) (m := l.length + 1) false Try.underlying87 Try.inB rfl (fun w => ⟨rfl, fun _ h => h⟩) rfl (by omega) rfl rfl rfl) rfl rfl (fun gm0 _ => ?_)
  refine rw_op (ot_alloc Try.zeroValue87 rfl rfl) rfl rfl (fun g2 _ => ?_)
  refine rw_op (ot_stb _ fc Try.sizeOf87 rfl rfl rfl rfl rfl (by rfl) rfl (by rfl)) rfl rfl (fun _ _ => ?_)
  refine rw_end ?_
  refine cw_seq ?_
  refine cw_region ?_
  refine rw_op (ot_alloc Try.zeroValue106 rfl rfl) rfl rfl (fun g3 _ => ?_)
  refine rw_end ?_
  refine cw_seq ?_
  refine cw_region ?_
  refine rw_run tab_ok 1 [(1, _), (3, _), (4, _), (11, _)] rfl ⟨rfl, rfl, rfl, rfl, trivial⟩ ?_
  refine rw_op (ot_stb _ fc Try.sizeOf106 rfl rfl rfl rfl rfl (by rfl) rfl (by rfl)) rfl rfl (fun _ _ => ?_)
  refine rw_end ?_
  refine cw_seq ?_
  refine cw_region ?_
  refine rw_s (qs_ldb fc Try.isAgg106 rfl rfl (by rfl)) rfl rfl ?_
  refine rw_op (ot_callK rfl rfl rfl Try.call83 (fun w hw => visit_any hs hf g2 g1 g3 (some ⟨gm0, 0, none⟩) (l.length + 1) _ [] (List.replicate (l.length + 1) false) 0 0 w rfl (by simp) (Nat.zero_le _) rfl (hw.msub ms))) rfl rfl (fun m hv => ?_)
  refine rw_end ?_
  refine cw_seq ?_
  refine cw_region ?_
  refine rw_run tab_ok 1 [(1, _), (3, _), (5, _)] rfl ⟨rfl, rfl, rfl, trivial⟩ ?_
  refine rw_end ?_
  refine cw_seq ?_
  refine cw_seq ?_
  refine cw_region ?_
  refine rw_s (qs_ldb fc Try.isAgg52 rfl rfl (by rfl)) rfl rfl ?_
  refine rw_s (qs_len Try.underlying52 rfl rfl) rfl rfl ?_
  refine rw_s (qs_add rfl rfl rfl (by omega)) rfl rfl ?_
  refine rw_run tab_ok 1 [(3, _), (5, _), (16, _), (17, _)] rfl ⟨rfl, rfl, rfl, rfl, trivial⟩ ?_
  refine rw_end ?_
  have hml : m.length = l.length + 1 := by rw [hv.met.1]; simp
  have hall := hv.all rfl hf
  refine cw_mem (fun w h => Cw.nilO Int h) ?_
  refine cw_block (cw_loop (fun g : Nat × Option Addr × Nat => g.1 ≤ l.length + 1) (fun g => l.length + 1 - g.1) (fun g => [(3, .pointer (some ⟨g2, 0, none⟩)), (5, .slice g.2.1 ((upto g.1).filter (rchB l)).length g.2.2), (16, .int .i64 (((l.length + 1 : Nat)) : Int)), (17, .int .i64 (g.1 : Int))]) (fun g => [ROw (.slice g.2.1 ((upto g.1).filter (rchB l)).length g.2.2) ((upto g.1).filter (rchB l)), RBox g2 [.slice (some ⟨gm0, 0, none⟩) (l.length + 1) (l.length + 1)] 87, ROw (.slice (some ⟨gm0, 0, none⟩) (l.length + 1) (l.length + 1)) m]) (0, none, 0) (Nat.zero_le _) ⟨rfl, rfl, rfl, rfl, trivial⟩ me ?_)
  rintro ⟨k, A1, c1⟩ hk'
  try dsimp only
  have hk : k ≤ l.length + 1 := hk'
  have hfl := filter_len (rchB l) k
  refine cw_seq ?_
  refine cw_region ?_
  refine rw_run tab_ok 1 [(3, _), (5, _), (16, _), (17, _), (18, _)] rfl ⟨rfl, rfl, rfl, rfl, rfl, trivial⟩ ?_
  refine rw_end ?_
  refine cw_seq ?_
  refine cw_condD rfl (fun hlt => ?_) (fun hlt => ?_)
  · refine cw_skip (xw_then ?_)
    refine cw_seq ?_
    refine cw_block ?_
    refine cw_seq ?_
    refine cw_region ?_
    refine rw_run tab_ok 2 [(3, _), (5, _), (6, _), (16, _), (17, _)] rfl ⟨rfl, rfl, rfl, rfl, rfl, trivial⟩ ?_
    refine rw_end ?_
    refine cw_seq ?_
    refine cw_region ?_
    refine rw_s (qs_ldb fc Try.isAgg87 rfl rfl (by rfl)) rfl rfl ?_
    refine rw_run tab_ok 1 [(3, _), (5, _), (6, _), (16, _), (17, _), (20, _), (21, _)] rfl ⟨rfl, rfl, rfl, rfl, rfl, rfl, rfl, trivial⟩ ?_
    refine rw_s (qs_idx Try.underlying87 Try.sizeOf4 (.own hml fc) (by omega) rfl rfl rfl) rfl rfl ?_
    refine rw_s (qs_ld (SF.bool (.own hml fc) (by omega)) rfl rfl Try.isAgg4) rfl rfl ?_
    refine rw_end ?_
    refine cw_cond rfl (fun hg => ?_) (fun hg => ?_)
    · have hg : (rchB l) (k : Int) = true := rchB_iff.2 ((hall k).1 hg)
      refine cw_region ?_
      refine rw_run tab_ok 2 [(3, _), (16, _), (17, _), (24, _), (25, _)] rfl ⟨rfl, rfl, rfl, rfl, rfl, trivial⟩ ?_
      refine rw_op (ot_bsl (cs := [_]) Try.underlying35 Try.sizeOf3 Try.zeroValue3 rfl rfl rfl rfl rfl) rfl rfl (fun g4 _ => ?_)
      refine rw_op (ot_app1 (α := Int) (bytes := 8) (k : Int) [] (filter_yes hg) Try.underlying35 (info_ex Try.inI) rfl (perm2 fc fc) (hel_int (by unfold I64; omega)) (by omega) (by omega) rfl rfl rfl) rfl rfl (fun ⟨A4, c4⟩ _ => ?_)
      try dsimp only
      refine rw_run tab_ok 1 [(3, _), (5, _), (16, _), (17, _)] rfl ⟨rfl, rfl, rfl, rfl, trivial⟩ ?_
      refine rw_endx (xw_blkn (xw_then ?_))
      refine cw_region ?_
      refine rw_s (qs_add rfl rfl rfl (by omega)) rfl rfl ?_
      refine rw_run tab_ok 1 [(3, _), (5, _), (16, _), (17, _)] rfl ⟨rfl, rfl, rfl, rfl, trivial⟩ ?_
      refine rw_round (k + 1, A4, c4) (by show k + 1 ≤ _; omega) (by show _ - _ < _ - _; omega) ⟨rfl, rfl, rfl, rfl, trivial⟩ me
    · have hg : ¬ (rchB l) (k : Int) = true := fun e => by rw [(hall k).2 (rchB_iff.1 e)] at hg; cases hg
      refine cw_skip (xw_blkn (xw_then ?_))
      refine cw_region ?_
      refine rw_s (qs_add rfl rfl rfl (by omega)) rfl rfl ?_
      refine rw_run tab_ok 1 [(3, _), (5, _), (16, _), (17, _)] rfl ⟨rfl, rfl, rfl, rfl, trivial⟩ ?_
      rw [← filter_no hg]
      refine rw_round (k + 1, A1, c1) (by show k + 1 ≤ _; omega) (by show _ - _ < _ - _; omega) ⟨rfl, rfl, rfl, rfl, trivial⟩ me
  · obtain rfl : k = l.length + 1 := by omega
    refine cw_exit (xw_thenx (xw_thenx (xw_blk (xw_then ?_))))
    refine cw_seq ?_
    refine cw_region ?_
    refine rw_run tab_ok 2 [(2, _)] rfl ⟨rfl, trivial⟩ ?_
    refine rw_end ?_
    refine cw_ret ?_
    refine xw_ret1 Try.results58 (rv_tmp rfl) ?_
    intro w hw
    exact ⟨(A1, c1), trivial, rfl, hw.msub ms⟩
set_option maxRecDepth 100000 in
theorem reach_any (A : Option Addr) (c : Nat) (l : List MOp) (w : World) (hs : Sl w (.slice A l.length c) l) :
    Calls Try.prog 31 #[.slice A l.length c] w fun e w' => ∃ g : Option Addr × Nat, True ∧ e = .returned (.tuple #[.slice g.1 (reachR l).length g.2, .int .i64 (flowE l)]) ∧ Cw w.heap.size w [ROw (.slice g.1 (reachR l).length g.2) (reachR l)] w' := by
  have b1 := len_bd hs
  refine enter Try.func31 rfl Try.ntmps31 rfl ?_
  refine cw_seq ?_
  refine cw_region ?_
  refine rw_run tab_ok 2 [(0, _)] rfl ⟨rfl, trivial⟩ ?_
  refine rw_end ?_
  refine cw_seq ?_
  refine cw_seq ?_
  refine cw_region ?_
  refine rw_run tab_ok 1 [(0, _), (5, _)] rfl ⟨rfl, rfl, trivial⟩ ?_
  refine rw_op (ot_c0 rfl rfl rfl Try.call57 (fun w hw => ready_any A c l w (hw.ro hs))) rfl rfl (fun _ _ => ?_)
  refine rw_run tab_ok 1 [(0, _), (4, _)] rfl ⟨rfl, rfl, trivial⟩ ?_
  refine rw_end ?_
  refine cw_seq ?_
  refine cw_region ?_
  refine rw_run tab_ok 2 [(0, _), (4, _), (8, _)] rfl ⟨rfl, rfl, rfl, trivial⟩ ?_
  refine rw_end ?_
  refine cw_condN rfl (fun hz => ?_) (fun hz => ?_)
  · have e := reachR_no hz
    refine cw_seq ?_
    refine cw_region ?_
    refine rw_run tab_ok 3 [(2, _), (3, _)] rfl ⟨rfl, rfl, trivial⟩ ?_
    refine rw_end ?_
    refine cw_ret (xw_thenr ?_)
    refine xw_ret2 Try.results31 (rv_tmp rfl) (rv_tmp rfl) ?_
    intro w hw
    refine ⟨(none, 0), trivial, by rw [e]; rfl, ?_⟩
    rw [e]
    exact (Cw.nilO Int hw).msub ms
  · have e := reachR_of hz
    rw [e, hz]
    refine cw_skip (xw_then ?_)
    refine cw_seq ?_
    refine cw_region ?_
    refine rw_run tab_ok 1 [(10, _)] rfl ⟨rfl, trivial⟩ ?_
    refine rw_op (ot_c rfl rfl rfl Try.call58 (fun w hw => all_any A c l w (hw.ro hs) hz)) rfl rfl (fun ⟨A1, c1⟩ _ => ?_)
    try dsimp only
    refine rw_run tab_ok 2 [(2, _), (3, _)] rfl ⟨rfl, rfl, trivial⟩ ?_
    refine rw_end ?_
    refine cw_ret ?_
    refine xw_ret2 Try.results31 (rv_tmp rfl) (rv_tmp rfl) ?_
    intro w hw
    exact ⟨(A1, c1), trivial, rfl, hw.msub ms⟩

/-- Some that may be come to. -/
def MRo (l : List MOp) (m : List Bool) : Prop := m.length = l.length + 1 ∧ m.getD 0 false = true ∧ ∀ i, m.getD i false = true → Rch l i
def ClosedR (l : List MOp) (m : List Bool) : Prop := ∀ p q, p < l.length → q ≤ l.length → m.getD p false = true → goesOn (opAt l p) p q = true → m.getD q false = true
structure RI (l : List MOp) (m : List Bool) (p q : Nat) (m2 : List Bool) (b : Bool) : Prop where
  ro : MRo l m2
  met : Met m m2
  lt : b = true → unmet m2 < unmet m
  eq : b = false → m2 = m ∧ ∀ p' q' : Nat, (p' < p ∨ p' = p ∧ q' < q) → p' < l.length → q' ≤ l.length → m.getD p' false = true → goesOn (opAt l p') p' q' = true → m.getD q' false = true
section
variable {l : List MOp} {m m2 : List Bool} {p q : Nat} {b : Bool}
theorem RI.start (h : MRo l m) : RI l m 0 0 m false := ⟨h, .refl _, (fun h => by cases h), fun _ => ⟨rfl, fun p' q' h => by omega⟩⟩
theorem RI.row (h : RI l m p (l.length + 1) m2 b) : RI l m (p + 1) 0 m2 b := ⟨h.ro, h.met, h.lt, fun e => ⟨(h.eq e).1, fun p' q' h1 h2 h3 => (h.eq e).2 p' q' (by omega) h2 h3⟩⟩
theorem RI.skip (h : RI l m p q m2 b) (hn : m2.getD p false = true → goesOn (opAt l p) p q = true → m2.getD q false = true) : RI l m p (q + 1) m2 b := by
  refine ⟨h.ro, h.met, h.lt, fun e => ⟨(h.eq e).1, fun p' q' h1 h2 h3 h4 h5 => ?_⟩⟩
  obtain ⟨e1, e2⟩ := h.eq e
  subst e1
  by_cases h6 : p' = p ∧ q' = q
  · obtain ⟨rfl, rfl⟩ := h6; exact hn h4 h5
  · exact e2 p' q' (by omega) h2 h3 h4 h5
theorem RI.set (h : RI l m p q m2 b) (hp : p < l.length) (hq : q ≤ l.length) (h1 : m2.getD p false = true) (h2 : m2.getD q false = false) (h3 : goesOn (opAt l p) p q = true) : RI l m p (q + 1) (m2.set q true) true := by
  have hl := h.ro.1
  have hu := unmet_set (m := m2) (k := q) (by omega) h2
  have hu2 := h.met.unmet
  refine ⟨⟨by simp [hl], ?_, fun i hi => ?_⟩, h.met.trans (.set (by omega)), fun _ => by omega, fun e => by cases e⟩
  · rw [set_getD _ _ _ (by omega)]; split; rfl; exact h.ro.2.1
  · rw [set_getD _ _ _ (by omega)] at hi
    split at hi
    · rename_i e; subst e; exact .step (h.ro.2.2 p h1) hp h3
    · exact h.ro.2.2 i hi
theorem RI.done (h : RI l m l.length 0 m2 b) : MRo l m2 ∧ (b = false → ClosedR l m2) ∧ unmet m2 + b.toNat < unmet m + true.toNat := by
  refine ⟨h.ro, fun e p q hp hq h1 h2 => ?_, ?_⟩
  · obtain ⟨e1, e2⟩ := h.eq e
    subst e1
    exact e2 p q (.inl hp) hp hq h1 h2
  · cases b
    · rw [(h.eq rfl).1]; simp
    · have := h.lt rfl; simpa using this
theorem MRo.all (h : MRo l m) (hc : ClosedR l m) (hf : flowE l = 0) (q : Nat) : m.getD q false = true ↔ Rch l q := by
  refine ⟨h.2.2 q, fun hr => ?_⟩
  induction hr with
  | refl => exact h.2.1
  | step h1 h2 h3 ih => exact hc _ _ h2 (by have := goes_in hf h2 h3; omega) ih h3
theorem MRo.first (l : List MOp) : MRo l ((List.replicate (l.length + 1) false).set 0 true) := by
  refine ⟨by simp, by rw [set_getD _ _ _ (by simp), if_pos rfl], fun i hi => ?_⟩
  rw [set_getD _ _ _ (by simp)] at hi
  split at hi
  · rename_i e; subst e; exact .refl
  · rw [List.getD_eq_getElem?_getD, List.getElem?_replicate] at hi
    split at hi <;> cases hi
end
end Go.Proofs.Ytejpkcheimgdfaa

-- VT4
/- Verify: the entries are the places that may be come to; plain facts, no program in sight. -/
namespace Go.Proofs.Ytejpkcheimgdfaa

theorem flow_ok {fs : List MFunc} (h : checkP fs = 0) {k : Nat} (hk : k < fs.length) : flowE (fnAt fs k).code = 0 := by
  obtain ⟨_, _, hall⟩ := checkP_zero h
  obtain ⟨_, _, h3, h4, h5, h6, h7⟩ := oneE_all (hall _ (fnAt_mem hk))
  obtain ⟨_, hn⟩ := fn_ok h hk
  unfold flowE
  rw [if_pos h6, if_neg (by omega), if_neg]
  intro ha
  rw [List.any_eq_true] at ha
  obtain ⟨o, ho, hfar⟩ := ha
  have hf := h7 _ ho
  unfold isFar at hfar
  simp only [Bool.and_eq_true, Bool.or_eq_true, decide_eq_true_eq] at hfar
  unfold fitsO at hf
  rw [if_neg (by omega), if_pos (by omega)] at hf
  have := within_iff.1 hf
  omega
theorem entU_mem {s : FSt} {n : Nat} {e : MEntry} (h : e ∈ entU s n) : ∃ k : Nat, k < n ∧ s.met.getD k false = true ∧ e = ⟨k, s.at_.getD k []⟩ := by
  unfold entU at h
  obtain ⟨k, h1, h2⟩ := List.mem_filterMap.1 h
  split at h2
  · rename_i hm
    exact ⟨k, List.mem_range.1 h1, hm, (Option.some.inj h2).symm⟩
  · cases h2
theorem entU_pcs (s : FSt) (n : Nat) : (entU s n).map (·.pc) = (upto n).filter fun a => s.met.getD a.toNat false := by
  induction n with
  | zero => rfl
  | succ n ih =>
    rw [entU_succ, upto_snoc, List.filter_append, ← ih]
    by_cases h : s.met.getD n false = true
    · rw [if_pos h, List.map_append]
      congr 1
      rw [List.filter_cons_of_pos (by simpa using h)]
      rfl
    · rw [if_neg h, List.filter_cons_of_neg (by simpa using h)]
      simp
theorem met_rch {fs : List MFunc} {f : MFunc} (hok : FnOk fs f) (hty : FnTy fs f) (hn : 0 < f.code.length) {s : FSt} (h : entS fs f = some s) (i : Nat) : s.met.getD i false = true ↔ Rch f.code i := by
  obtain ⟨hF, hst, hle⟩ := (entS_least hok hty hn).1 s h
  constructor
  · intro hm
    have hst2 : StM fs f (fun i => @ite _ (Rch f.code i) (Classical.propDecidable _) (MO s i) none) := by
      refine ⟨by rw [if_pos .refl]; exact hst.m0, fun k t ht => ?_⟩
      split at ht
      · rename_i hr
        obtain ⟨h1, h2, v, h3, h4⟩ := hst.ok k t ht
        refine ⟨h1, h2, v, h3, fun q hq => ?_⟩
        obtain ⟨s', h5, h6⟩ := h4 q hq
        have hq0 := hok.to_ k h1 q hq
        have hg := (after_mem _ _ _).1 hq
        refine ⟨s', ?_, h6⟩
        rw [if_pos (.step hr h1 (by rw [show ((q.toNat : Nat) : Int) = q from by omega]; exact hg))]
        exact h5
      · cases ht
    obtain ⟨u, h1, _⟩ := hle _ hst2 i _ (MO_some.2 ⟨hm, rfl⟩)
    split at h1
    · assumption
    · cases h1
  · intro hr
    induction hr with
    | refl => exact (MO_some.1 hst.m0).1
    | @step q r _ h2 h3 ih =>
      obtain ⟨_, _, v, _, h4⟩ := hst.ok q _ (MO_some.2 ⟨ih, rfl⟩)
      obtain ⟨s', h5, _⟩ := h4 (r : Int) ((after_mem _ _ _).2 h3)
      rw [Int.toNat_natCast] at h5
      exact (MO_some.1 h5).1
theorem fits_pcs {fs : List MFunc} {f : MFunc} (hok : FnOk fs f) (hty : FnTy fs f) (hn : 0 < f.code.length) {s : FSt} (h : entS fs f = some s) : (entU s f.code.length).map (·.pc) = reachL f.code := by
  obtain ⟨hF, _, _⟩ := (entS_least hok hty hn).1 s h
  rw [entU_pcs]
  unfold reachL
  refine rising_eq ((upto_sorted _).filter _) ((upto_sorted _).filter _) fun a => ?_
  rw [List.mem_filter, upto_mem, List.mem_filter, upto_mem, rchB_iff, ← met_rch hok hty hn h]
  constructor
  · rintro ⟨h1, h2⟩
    exact ⟨by omega, h2⟩
  · rintro ⟨h1, h2⟩
    have := met_lt hF h2
    exact ⟨by omega, h2⟩
theorem fits_head {fs : List MFunc} {f : MFunc} (hok : FnOk fs f) (hty : FnTy fs f) (hn : 0 < f.code.length) {s : FSt} (h : entS fs f = some s) : ∃ r, entU s f.code.length = ⟨0, []⟩ :: r := by
  obtain ⟨hF, hst, _⟩ := (entS_least hok hty hn).1 s h
  obtain ⟨h1, h2⟩ := MO_some.1 hst.m0
  obtain ⟨n, hn⟩ : ∃ n, f.code.length = n + 1 := ⟨f.code.length - 1, by omega⟩
  unfold entU
  rw [hn, List.range_succ_eq_map, List.filterMap_cons, if_pos h1, h2]
  exact ⟨_, rfl⟩
/-- Each entry: its op has what it takes, and what it leaves stands for what is wanted after it. -/
theorem fits_entry {fs : List MFunc} {f : MFunc} (hok : FnOk fs f) (hty : FnTy fs f) (hn : 0 < f.code.length) {s : FSt} (h : entS fs f = some s) {k : Nat} (hm : s.met.getD k false = true) :
    k < f.code.length ∧ (s.at_.getD k []).length ≤ 8 ∧ ∃ v, tryO fs f (opAt f.code k) (s.at_.getD k []) = some v ∧ ∀ q ∈ afterL (opAt f.code k) k, (0 ≤ q ∧ q < f.code.length) ∧ s.met.getD q.toNat false = true ∧ Le v (s.at_.getD q.toNat []) := by
  obtain ⟨hF, hst, _⟩ := (entS_least hok hty hn).1 s h
  obtain ⟨h1, _, v, h3, h4⟩ := hst.ok k _ (MO_some.2 ⟨hm, rfl⟩)
  refine ⟨h1, hF.st k, v, h3, fun q hq => ?_⟩
  obtain ⟨s', h5, h6⟩ := h4 q hq
  obtain ⟨h7, h8⟩ := MO_some.1 h5
  subst h8
  have h9 := met_lt hF h7
  have := hok.to_ k h1 q hq
  exact ⟨by omega, h7, h6⟩
end Go.Proofs.Ytejpkcheimgdfaa

-- VT5
/- Verify: a function more, a dead op: the entries are the same; plain facts, no program in sight. -/
namespace Go.Proofs.Ytejpkcheimgdfaa

/-- Two functions whose least solutions are each other's solutions have the same entries. -/
theorem ents_same {fs fs' : List MFunc} {f f' : MFunc} (hok : FnOk fs f) (hty : FnTy fs f) (hn : 0 < f.code.length) (hok' : FnOk fs' f') (hty' : FnTy fs' f') (hl : f'.code.length = f.code.length)
    (h1 : ∀ s, entS fs f = some s → StM fs' f' (MO s)) (h2 : ∀ s, entS fs' f' = some s → StM fs f (MO s)) : entriesS fs f = entriesS fs' f' := by
  obtain ⟨a1, a2⟩ := entS_least hok hty hn
  obtain ⟨b1, b2⟩ := entS_least hok' hty' (by omega)
  cases e : entS fs f with
  | none =>
    rw [ents_fail hok hty hn (a2 e)]
    cases e' : entS fs' f' with
    | none => rw [ents_fail hok' hty' (by omega) (b2 e')]
    | some s' => exact absurd (h2 s' e') (a2 e _)
  | some s =>
    cases e' : entS fs' f' with
    | none => exact absurd (h1 s e) (b2 e' _)
    | some s' =>
      unfold entriesS
      rw [e, e']
      show (entU s f.code.length, true) = (entU s' f'.code.length, true)
      rw [hl]
      congr 1
      unfold entU
      congr 1
      funext i
      by_cases hm : s.met.getD i false = true
      · obtain ⟨t, h3, h4⟩ := (a1 s e).2.2 _ (h2 s' e') i _ (MO_some.2 ⟨hm, rfl⟩)
        obtain ⟨h5, h6⟩ := MO_some.1 h3
        subst h6
        obtain ⟨u, h7, h8⟩ := (b1 s' e').2.2 _ (h1 s e) i _ (MO_some.2 ⟨h5, rfl⟩)
        obtain ⟨_, h9⟩ := MO_some.1 h7
        subst h9
        rw [if_pos hm, if_pos h5, h4.anti h8]
      · rw [if_neg hm, if_neg]
        intro h5
        obtain ⟨u, h7, _⟩ := (b1 s' e').2.2 _ (h1 s e) i _ (MO_some.2 ⟨h5, rfl⟩)
        exact hm (MO_some.1 h7).1
theorem fnAt_app {fs : List MFunc} {m : MFunc} {k : Nat} (hk : k < fs.length) : fnAt (fs ++ [m]) k = fnAt fs k := by
  unfold fnAt
  rw [List.getD_eq_getElem?_getD, List.getD_eq_getElem?_getD, List.getElem?_append_left hk]
theorem tryO_app {fs : List MFunc} {m f : MFunc} {o : MOp} (h : OpOk fs f o) (s : List Int) : tryO (fs ++ [m]) f o s = tryO fs f o s := by
  rw [tryO_tl, tryO_tl]
  have : tl (fs ++ [m]) f o s = tl fs f o s := by
    unfold tl
    by_cases h12 : o.c = 12
    · have hc := h.call h12
      rw [fnAt_app (by omega)]
    · simp only [if_neg h12]
  rw [this]
theorem stm_app {fs : List MFunc} {m f : MFunc} (hok : FnOk fs f) (M : Nat → Option (List Int)) : StM (fs ++ [m]) f M ↔ StM fs f M := by
  constructor
  · rintro ⟨h1, h2⟩
    refine ⟨h1, fun k s hs => ?_⟩
    obtain ⟨k1, k2, v, k3, k4⟩ := h2 k s hs
    exact ⟨k1, k2, v, by rw [← tryO_app (m := m) (hok.op k k1)]; exact k3, k4⟩
  · rintro ⟨h1, h2⟩
    refine ⟨h1, fun k s hs => ?_⟩
    obtain ⟨k1, k2, v, k3, k4⟩ := h2 k s hs
    exact ⟨k1, k2, v, by rw [tryO_app (hok.op k k1)]; exact k3, k4⟩
theorem funcS_in {fs : List MFunc} (h : checkP fs = 0) {k : Nat} (hk : k < fs.length) : funcS fs k = if (entriesS fs (fnAt fs k)).2 = true then ((entriesS fs (fnAt fs k)).1, 0) else ([], 4) := by
  unfold funcS
  rw [if_neg (by simpa using h), if_neg (by omega), Int.toNat_natCast]
/-- A function more changes no entry. -/
theorem more_same {fs : List MFunc} {m : MFunc} (h : checkP fs = 0) (h' : checkP (fs ++ [m]) = 0) {k : Nat} (hk : k < fs.length) : funcS (fs ++ [m]) k = funcS fs k := by
  obtain ⟨hok, hn⟩ := fn_ok h hk
  have hk' : k < (fs ++ [m]).length := by rw [List.length_append]; omega
  obtain ⟨hok', hn'⟩ := fn_ok h' hk'
  have hty := fn_ty h hk
  have hty' := fn_ty h' hk'
  rw [fnAt_app hk] at hok' hn' hty'
  have he := ents_same hok hty hn hok' hty' rfl (fun s e => (stm_app hok _).2 ((entS_least hok hty hn).1 s e).2.1) (fun s e => (stm_app hok _).1 ((entS_least hok' hty' hn).1 s e).2.1)
  rw [funcS_in h' hk', funcS_in h hk, fnAt_app hk, he]
/-! A dead op -/
def setOp (f : MFunc) (pc : Nat) (o : MOp) : MFunc := { f with code := f.code.set pc o }
theorem setOp_at {f : MFunc} {pc : Nat} {o : MOp} {i : Nat} (h : i ≠ pc) : opAt (setOp f pc o).code i = opAt f.code i := by
  show (f.code.set pc o).getD i _ = f.code.getD i _
  rw [List.getD_eq_getElem?_getD, List.getD_eq_getElem?_getD, List.getElem?_set_ne (fun e => h e.symm)]
theorem setOp_len {f : MFunc} {pc : Nat} {o : MOp} : (setOp f pc o).code.length = f.code.length := by
  show (f.code.set pc o).length = _
  simp
theorem fnAt_set {fs : List MFunc} {k : Nat} {f : MFunc} (hk : k < fs.length) (j : Nat) : fnAt (fs.set k f) j = if j = k then f else fnAt fs j := getD_set hk
theorem tryO_set {fs : List MFunc} {k pc : Nat} {o : MOp} (hk : k < fs.length) (p : MOp) (s : List Int) : tryO (fs.set k (setOp (fnAt fs k) pc o)) (setOp (fnAt fs k) pc o) p s = tryO fs (fnAt fs k) p s := by
  have key : ∀ j, calledT (fnAt (fs.set k (setOp (fnAt fs k) pc o)) j) = calledT (fnAt fs j) ∧ resultT (fnAt (fs.set k (setOp (fnAt fs k) pc o)) j) = resultT (fnAt fs j) := fun j => by
    rw [fnAt_set hk]
    split
    · rename_i e; subst e; exact ⟨rfl, rfl⟩
    · exact ⟨rfl, rfl⟩
  have : tl (fs.set k (setOp (fnAt fs k) pc o)) (setOp (fnAt fs k) pc o) p s = tl fs (fnAt fs k) p s := by
    unfold tl
    rw [(key _).1, (key _).2]
    rfl
  rw [tryO_tl, tryO_tl, this]
theorem rch_set {f : MFunc} {pc : Nat} {o : MOp} (hd : ¬ Rch f.code pc) {i : Nat} (h : Rch (setOp f pc o).code i) : Rch f.code i := by
  induction h with
  | refl => exact .refl
  | @step q r _ h2 h3 ih =>
    have hq : q ≠ pc := fun e => hd (e ▸ ih)
    rw [setOp_at hq] at h3
    rw [setOp_len] at h2
    exact .step ih h2 h3
/-- Another op where none comes changes no entry. -/
theorem dead_same {fs : List MFunc} {k pc : Nat} {o : MOp} (hk : k < fs.length) (h : checkP fs = 0) (h' : checkP (fs.set k (setOp (fnAt fs k) pc o)) = 0) (hd : ¬ Rch (fnAt fs k).code pc) : funcS (fs.set k (setOp (fnAt fs k) pc o)) k = funcS fs k := by
  obtain ⟨hok, hn⟩ := fn_ok h hk
  have hk' : k < (fs.set k (setOp (fnAt fs k) pc o)).length := by rw [List.length_set]; exact hk
  obtain ⟨hok', hn'⟩ := fn_ok h' hk'
  have hty := fn_ty h hk
  have hty' := fn_ty h' hk'
  have ef : fnAt (fs.set k (setOp (fnAt fs k) pc o)) k = setOp (fnAt fs k) pc o := by rw [fnAt_set hk, if_pos rfl]
  rw [ef] at hok' hn' hty'
  have he := ents_same hok hty hn hok' hty' setOp_len (fun s e => ?_) (fun s e => ?_)
  · rw [funcS_in h' hk', funcS_in h hk, ef, he]
  · obtain ⟨_, hst, _⟩ := (entS_least hok hty hn).1 s e
    refine ⟨hst.m0, fun i t ht => ?_⟩
    have hr := (met_rch hok hty hn e i).1 (MO_some.1 ht).1
    have hi : i ≠ pc := fun e => hd (e ▸ hr)
    obtain ⟨k1, k2, v, k3, k4⟩ := hst.ok i t ht
    exact ⟨by rw [setOp_len]; exact k1, k2, v, by rw [tryO_set hk, setOp_at hi]; exact k3, by rw [setOp_at hi]; exact k4⟩
  · obtain ⟨_, hst, _⟩ := (entS_least hok' hty' hn').1 s e
    refine ⟨hst.m0, fun i t ht => ?_⟩
    have hr := rch_set hd ((met_rch hok' hty' hn' e i).1 (MO_some.1 ht).1)
    have hi : i ≠ pc := fun e => hd (e ▸ hr)
    obtain ⟨k1, k2, v, k3, k4⟩ := hst.ok i t ht
    rw [tryO_set hk, setOp_at hi] at k3
    rw [setOp_at hi] at k4
    exact ⟨by rw [setOp_len] at k1; exact k1, k2, v, k3, k4⟩
end Go.Proofs.Ytejpkcheimgdfaa

-- V15
/- Verify: the document's join; entries held against each other. -/
namespace Go.Proofs.Ytejpkcheimgdfaa
open Go.RowKit

section
variable {B : Nat} {w0 : World}
def entM (l : List MEntry) (k : Nat) : MEntry := l.getD k ⟨0, []⟩
/-- An element of a slice of entries that nobody writes. -/
theorem SlB.ent {A : Option Addr} {m c k : Nat} {xs : List MEntry} (h : SlB w0 B (.slice A m c) xs) (hk : k < m) : ∃ A1 c1, SlB w0 B (.slice A1 (entM xs k).stack.length c1) (entM xs k).stack ∧ I64 (entM xs k).pc ∧
    ∀ H w, Cw B w0 H w → ∀ j v, ([.int .i64 (entM xs k).pc, .slice A1 (entM xs k).stack.length c1] : List Value)[j]? = some v → w.cell? ⟨ab A, ao A + k * 2 + j, none⟩ = some v := by
  obtain ⟨cs, ⟨v1, hcs, hi, h1⟩, hc⟩ := h.elr hk ⟨0, []⟩
  obtain ⟨A1, c1, rfl, _⟩ := h1.form
  subst hcs
  exact ⟨A1, c1, h1, hi, fun H w hw j v hv => hc j v hv H w hw⟩
end
theorem entM_eq {a b : MEntry} (h1 : a.pc = b.pc) (h2 : a.stack = b.stack) : a = b := by cases a; cases b; simp_all
set_option maxRecDepth 100000 in
set_option maxHeartbeats 2000000 in
theorem rsameE_any (A1 A2 : Option Addr) (c1 c2 : Nat) (xs ys : List MEntry) (w : World) (h1 : Sl w (.slice A1 xs.length c1) xs) (h2 : Sl w (.slice A2 ys.length c2) ys) :
    Calls Try.prog 24 #[.slice A1 xs.length c1, .slice A2 ys.length c2] w fun e w' => e = .returned (.bool (decide (xs = ys))) ∧ Below w.heap.size w w' := by
  have b1 := len_bd h1
  refine enter Try.func24 rfl Try.ntmps24 rfl ?_
  refine cw_seq ?_
  refine cw_region ?_
  refine rw_run tab_ok 1 [(0, _), (1, _)] rfl ⟨rfl, rfl, trivial⟩ ?_
  refine rw_end ?_
  refine cw_seq ?_
  refine cw_seq ?_
  refine cw_region ?_
  refine rw_run tab_ok 1 [(0, _), (1, _), (6, _)] rfl ⟨rfl, rfl, rfl, trivial⟩ ?_
  refine rw_s (qs_len Try.underlying36 rfl rfl) rfl rfl ?_
  refine rw_run tab_ok 1 [(0, _), (1, _), (7, _), (8, _)] rfl ⟨rfl, rfl, rfl, rfl, trivial⟩ ?_
  refine rw_s (qs_len Try.underlying36 rfl rfl) rfl rfl ?_
  refine rw_run tab_ok 1 [(0, _), (1, _), (10, _)] rfl ⟨rfl, rfl, rfl, trivial⟩ ?_
  refine rw_end ?_
  refine cw_condN rfl (fun hl => ?_) (fun hl => ?_)
  · refine cw_seq ?_
    refine cw_region ?_
    refine rw_run tab_ok 1 [(4, _)] rfl ⟨rfl, trivial⟩ ?_
    refine rw_end ?_
    refine cw_ret (xw_thenr ?_)
    refine xw_ret1 Try.results24 (rv_tmp rfl) ?_
    intro w hw
    exact ⟨ret_bool (by rw [decide_eq_false (fun e => hl (by rw [e]))]), hw.below⟩
  · have hl : xs.length = ys.length := by omega
    refine cw_skip (xw_then ?_)
    refine cw_seq ?_
    refine cw_seq ?_
    refine cw_region ?_
    refine rw_run tab_ok 1 [(0, _), (1, _), (5, _)] rfl ⟨rfl, rfl, rfl, trivial⟩ ?_
    refine rw_end ?_
    refine cw_block (cw_loop (fun i : Nat => i ≤ xs.length ∧ xs.take i = ys.take i) (fun i => xs.length - i) (fun i => [(0, .slice A1 xs.length c1), (1, .slice A2 ys.length c2), (5, .int .i64 (i : Int))]) (fun _ => []) 0 (⟨Nat.zero_le _, rfl⟩) ⟨rfl, rfl, rfl, trivial⟩ me ?_)
    rintro i hi'
    obtain ⟨hi, hj⟩ : i ≤ xs.length ∧ xs.take i = ys.take i := hi'
    refine cw_seq ?_
    refine cw_seq ?_
    refine cw_region ?_
    refine rw_run tab_ok 2 [(0, _), (1, _), (5, _), (11, _), (12, _)] rfl ⟨rfl, rfl, rfl, rfl, rfl, trivial⟩ ?_
    refine rw_s (qs_len Try.underlying36 rfl rfl) rfl rfl ?_
    refine rw_run tab_ok 1 [(0, _), (1, _), (5, _), (14, _)] rfl ⟨rfl, rfl, rfl, rfl, trivial⟩ ?_
    refine rw_end ?_
    refine cw_condD rfl (fun hlt => ?_) (fun hlt => ?_)
    · have hil : i < xs.length := by omega
      obtain ⟨B1, d1, s1, i1, hc1⟩ := h1.ent hil
      obtain ⟨B2, d2, s2, i2, hc2⟩ := h2.ent (k := i) (by omega)
      refine cw_skip (xw_then ?_)
      refine cw_seq ?_
      refine cw_block ?_
      refine cw_seq ?_
      refine cw_draw (.still 0 (.still 1 (.still 2 (.still 3 (.still 4 (.still 5 (.still 6 (.still 7 (.still 8 (.still 9 (.still 10 (.still 11 (.still 12 (.still 13 (.still 14 (.still 15 (.still 16 (.still 17 (.still 18 (.still 19 (.still 20 (.still 21 (.pick 22 (.still 23 (.still 24 .done)) .stop))))))))))))))))))))))) [] rfl (by kernel_rfl) (by kernel_rfl) ?_
      refine ro_run tab_ok ha 2 [(0, _), (1, _), (5, _), (17, _), (18, _)] rfl ⟨rfl, rfl, rfl, rfl, rfl, trivial⟩ ?_
      refine ro_s2 rfl (qs_idx Try.underlying36 Try.sizeOf57 (.ro h1) (by omega) rfl rfl rfl) rfl rfl ha ?_
      refine ro_run tab_ok ha 1 [(0, _), (1, _), (5, _), (20, _)] rfl ⟨rfl, rfl, rfl, rfl, trivial⟩ ?_
      refine ro_s2 rfl (qs_ld (fun w hw => hc1 _ w hw 0 _ rfl) rfl rfl Try.isAgg3) rfl rfl ha ?_
      refine ro_run tab_ok ha 2 [(0, _), (1, _), (5, _), (21, _), (22, _), (23, _)] rfl ⟨rfl, rfl, rfl, rfl, rfl, rfl, trivial⟩ ?_
      refine ro_s2 rfl (qs_idx Try.underlying36 Try.sizeOf57 (.ro h2) (by omega) rfl rfl rfl) rfl rfl ha ?_
      refine ro_run tab_ok ha 1 [(0, _), (1, _), (5, _), (21, _), (25, _)] rfl ⟨rfl, rfl, rfl, rfl, rfl, trivial⟩ ?_
      refine ro_s2 rfl (qs_ld (fun w hw => hc2 _ w hw 0 _ rfl) rfl rfl Try.isAgg3) rfl rfl ha ?_
      refine ro_run tab_ok ha 2 [(0, _), (1, _), (5, _), (28, _)] rfl ⟨rfl, rfl, rfl, rfl, trivial⟩ ?_
      refine ro_split (t := 28) rfl (fun hp => ?_) (fun hp => ?_)
      · have hp : ¬ (entM xs i).pc = (entM ys i).pc := by simpa using hp
        refine ro_run tab_ok ha 10 [(0, _), (1, _), (5, _), (28, _), (33, _), (38, _)] rfl ⟨rfl, rfl, rfl, rfl, rfl, rfl, trivial⟩ ?_
        refine ro_skipL rfl rfl rfl (.inr ha) ?_ ro_stop
        refine ro_run tab_ok ha 2 [(0, _), (1, _), (5, _), (41, _)] rfl ⟨rfl, rfl, rfl, rfl, trivial⟩ ?_
        refine ro_end ?_
        refine cw_cond_t rfl ?_
        refine cw_seq ?_
        refine cw_region ?_
        refine rw_run tab_ok 1 [(4, _)] rfl ⟨rfl, trivial⟩ ?_
        refine rw_end ?_
        refine cw_ret (xw_blkr (xw_thenr (xw_thenr (xw_blkr (xw_thenr ?_)))))
        refine xw_ret1 Try.results24 (rv_tmp rfl) ?_
        intro w hw
        exact ⟨ret_bool (by rw [decide_eq_false (fun e => hp (by rw [e]))]), hw.below⟩
      · have hp : (entM xs i).pc = (entM ys i).pc := by simpa using hp
        refine ro_run tab_ok ha 2 [(0, _), (1, _), (5, _), (28, _), (29, _), (30, _)] rfl ⟨rfl, rfl, rfl, rfl, rfl, rfl, trivial⟩ ?_
        refine ro_s2 rfl (qs_idx Try.underlying36 Try.sizeOf57 (.ro h1) (by omega) rfl rfl rfl) rfl rfl ha ?_
        refine ro_run tab_ok ha 1 [(0, _), (1, _), (5, _), (28, _), (32, _)] rfl ⟨rfl, rfl, rfl, rfl, rfl, trivial⟩ ?_
        refine ro_s2 rfl (qs_ld (fun w hw => hc1 _ w hw 1 _ rfl) rfl rfl Try.isAgg35) rfl rfl ha ?_
        refine ro_run tab_ok ha 2 [(0, _), (1, _), (5, _), (28, _), (33, _), (34, _), (35, _)] rfl ⟨rfl, rfl, rfl, rfl, rfl, rfl, rfl, trivial⟩ ?_
        refine ro_s2 rfl (qs_idx Try.underlying36 Try.sizeOf57 (.ro h2) (by omega) rfl rfl rfl) rfl rfl ha ?_
        refine ro_run tab_ok ha 1 [(0, _), (1, _), (5, _), (28, _), (33, _), (37, _)] rfl ⟨rfl, rfl, rfl, rfl, rfl, rfl, trivial⟩ ?_
        refine ro_s2 rfl (qs_ld (fun w hw => hc2 _ w hw 1 _ rfl) rfl rfl Try.isAgg35) rfl rfl ha ?_
        refine ro_op2 rfl (ot_c0 rfl rfl rfl Try.call28 (fun w hw => sameInts_w B1 B2 d1 d2 (entM xs i).stack (entM ys i).stack w (hw.ro s1) (hw.ro s2))) rfl rfl (.inr fun _ => ha) (fun _ _ => ?_) ro_stop
        refine ro_run tab_ok ha 2 [(0, _), (1, _), (5, _), (41, _)] rfl ⟨rfl, rfl, rfl, rfl, trivial⟩ ?_
        refine ro_end ?_
        refine cw_condN rfl (fun hq => ?_) (fun hq => ?_)
        · refine cw_seq ?_
          refine cw_region ?_
          refine rw_run tab_ok 1 [(4, _)] rfl ⟨rfl, trivial⟩ ?_
          refine rw_end ?_
          refine cw_ret (xw_blkr (xw_thenr (xw_thenr (xw_blkr (xw_thenr ?_)))))
          refine xw_ret1 Try.results24 (rv_tmp rfl) ?_
          intro w hw
          exact ⟨ret_bool (by rw [decide_eq_false (fun e => hq (by rw [e]))]), hw.below⟩
        · have he := entM_eq hp hq
          have hnx : xs.take (i + 1) = ys.take (i + 1) := take_eq_g ⟨0, []⟩ hj hil (by omega) he
          refine cw_skip (xw_blkn (xw_then ?_))
          refine cw_region ?_
          refine rw_run tab_ok 1 [(0, _), (1, _), (15, _)] rfl ⟨rfl, rfl, rfl, trivial⟩ ?_
          refine rw_s (qs_add rfl rfl rfl (by omega)) rfl rfl ?_
          refine rw_run tab_ok 1 [(0, _), (1, _), (5, _)] rfl ⟨rfl, rfl, rfl, trivial⟩ ?_
          refine rw_round (i + 1) (⟨hil, hnx⟩) (by show _ - _ < _ - _; omega) ⟨rfl, rfl, rfl, trivial⟩ me
    · obtain rfl : i = xs.length := by omega
      rw [List.take_length, hl, List.take_length] at hj
      refine cw_exit (xw_thenx (xw_thenx (xw_blk (xw_then ?_))))
      refine cw_seq ?_
      refine cw_region ?_
      refine rw_run tab_ok 1 [(4, _)] rfl ⟨rfl, trivial⟩ ?_
      refine rw_end ?_
      refine cw_ret ?_
      refine xw_ret1 Try.results24 (rv_tmp rfl) ?_
      intro w hw
      exact ⟨ret_bool (by rw [decide_eq_true hj]), hw.below⟩
/-- The narrowest of so many types that both stand for. -/
def tR (a b : Int) : Nat → Int
  | 0 => 0
  | k + 1 => if tR a b k = 0 ∧ standsB a (3 - k) = true ∧ standsB b (3 - k) = true then 3 - k else tR a b k
theorem tR_both {a b : Int} (ha : 1 ≤ a ∧ a ≤ 3) (hb : 1 ≤ b ∧ b ≤ 3) : tR a b 3 = bothI a b := by
  rcases t3 ha with rfl | rfl | rfl <;> rcases t3 hb with rfl | rfl | rfl <;> decide
set_option maxRecDepth 100000 in
set_option maxHeartbeats 2000000 in
theorem rjoinOf_any (A1 A2 : Option Addr) (c1 c2 : Nat) (a b : List Int) (w : World) (h1 : Sl w (.slice A1 a.length c1) a) (h2 : Sl w (.slice A2 b.length c2) b) (ta : Ty a) (tb : Ty b) (hle : a.length ≤ 1000000) :
    Calls Try.prog 22 #[.slice A1 a.length c1, .slice A2 b.length c2] w fun e w' => ∃ u, e = .returned (.tuple #[u, .bool (joinL a b).isSome]) ∧ Below w.heap.size w w' ∧ OwN w' w.heap.size u ((joinL a b).getD []) := by
  have bb := len_bd h2
  refine enter Try.func22 rfl Try.ntmps22 rfl ?_
  refine cw_seq ?_
  refine cw_region ?_
  refine rw_run tab_ok 2 [(0, _), (1, _)] rfl ⟨rfl, rfl, trivial⟩ ?_
  refine rw_end ?_
  refine cw_seq ?_
  refine cw_seq ?_
  refine cw_region ?_
  refine rw_run tab_ok 1 [(0, _), (1, _), (10, _)] rfl ⟨rfl, rfl, rfl, trivial⟩ ?_
  refine rw_s (qs_len Try.underlying35 rfl rfl) rfl rfl ?_
  refine rw_run tab_ok 1 [(0, _), (1, _), (11, _), (12, _)] rfl ⟨rfl, rfl, rfl, rfl, trivial⟩ ?_
  refine rw_s (qs_len Try.underlying35 rfl rfl) rfl rfl ?_
  refine rw_run tab_ok 1 [(0, _), (1, _), (14, _)] rfl ⟨rfl, rfl, rfl, trivial⟩ ?_
  refine rw_end ?_
  refine cw_condN rfl (fun hl => ?_) (fun hl => ?_)
  · have hn := joinL_ne (a := a) (b := b) (fun e => hl (by rw [e]))
    refine cw_seq ?_
    refine cw_region ?_
    refine rw_run tab_ok 2 [(4, _), (5, _)] rfl ⟨rfl, rfl, trivial⟩ ?_
    refine rw_end ?_
    refine cw_ret (xw_thenr ?_)
    refine xw_ret2 Try.results22 (rv_tmp rfl) (rv_tmp rfl) ?_
    intro w hw
    rw [hn]
    exact ⟨_, rfl, nil_ret hw⟩
  · have hl : a.length = b.length := by omega
    refine cw_skip (xw_then ?_)
    refine cw_seq ?_
    refine cw_region ?_
    refine rw_run tab_ok 1 [(0, _), (1, _), (6, _)] rfl ⟨rfl, rfl, rfl, trivial⟩ ?_
    refine rw_end ?_
    refine cw_seq ?_
    refine cw_seq ?_
    refine cw_region ?_
    refine rw_run tab_ok 1 [(0, _), (1, _), (6, _), (7, _)] rfl ⟨rfl, rfl, rfl, rfl, trivial⟩ ?_
    refine rw_end ?_
    refine cw_mem (fun w h => Cw.nilO Int h) ?_
    refine cw_block (cw_loop (fun g : Nat × List Int × Option Addr × Nat => g.1 ≤ a.length ∧ joinL (a.take g.1) (b.take g.1) = some g.2.1) (fun g => a.length - g.1) (fun g => [(0, .slice A1 a.length c1), (1, .slice A2 b.length c2), (6, .slice g.2.2.1 g.2.1.length g.2.2.2), (7, .int .i64 (g.1 : Int))]) (fun g => [ROw (.slice g.2.2.1 g.2.1.length g.2.2.2) g.2.1]) (0, [], none, 0) (⟨Nat.zero_le _, rfl⟩) ⟨rfl, rfl, rfl, rfl, trivial⟩ me ?_)
    rintro ⟨i, out, Ao, co⟩ hi'
    try dsimp only
    obtain ⟨hi, hj⟩ : i ≤ a.length ∧ joinL (a.take i) (b.take i) = some out := hi'
    have hol : out.length = i := by have := (joinL_len hj).2; rw [List.length_take] at this; omega
    refine cw_seq ?_
    refine cw_seq ?_
    refine cw_region ?_
    refine rw_run tab_ok 2 [(0, _), (1, _), (6, _), (7, _), (15, _), (16, _)] rfl ⟨rfl, rfl, rfl, rfl, rfl, rfl, trivial⟩ ?_
    refine rw_s (qs_len Try.underlying35 rfl rfl) rfl rfl ?_
    refine rw_run tab_ok 1 [(0, _), (1, _), (6, _), (7, _), (18, _)] rfl ⟨rfl, rfl, rfl, rfl, rfl, trivial⟩ ?_
    refine rw_end ?_
    refine cw_condD rfl (fun hlt => ?_) (fun hlt => ?_)
    · have hil : i < a.length := by omega
      have hst := joinL_step hil (by omega) hj
      have i1 := all_i64 h1 hil
      have i2 := all_i64 h2 (k := i) (by omega)
      have hbt := tR_both (ta.at_ hil) (tb.at_ (i := i) (by omega))
      refine cw_skip (xw_then ?_)
      refine cw_seq ?_
      refine cw_block ?_
      refine cw_seq ?_
      refine cw_region ?_
      refine rw_run tab_ok 1 [(0, _), (1, _), (6, _), (7, _), (8, _)] rfl ⟨rfl, rfl, rfl, rfl, rfl, trivial⟩ ?_
      refine rw_end ?_
      refine cw_seq ?_
      refine cw_seq ?_
      refine cw_region ?_
      refine rw_run tab_ok 1 [(0, _), (1, _), (6, _), (7, _), (8, _), (9, _)] rfl ⟨rfl, rfl, rfl, rfl, rfl, rfl, trivial⟩ ?_
      refine rw_end ?_
      refine cw_cutk (fun _ : Unit => True) (fun _ => [(0, .slice A1 a.length c1), (1, .slice A2 b.length c2), (6, .slice Ao out.length co), (7, .int .i64 (i : Int)), (8, .int .i64 (bothI (a.getD i 0) (b.getD i 0)))]) (fun _ => [ROw (.slice Ao out.length co) out]) ?_ ?_
      · refine cw_block (cw_loop (fun g : Nat × Int => g.1 ≤ 3 ∧ g.2 = 3 - (g.1 : Int)) (fun g => 3 - g.1) (fun g => [(0, .slice A1 a.length c1), (1, .slice A2 b.length c2), (6, .slice Ao out.length co), (7, .int .i64 (i : Int)), (8, .int .i64 (tR (a.getD i 0) (b.getD i 0) g.1)), (9, .int .i64 g.2)]) (fun _ => [ROw (.slice Ao out.length co) out]) (0, 3) (⟨Nat.zero_le _, rfl⟩) ⟨rfl, rfl, rfl, rfl, rfl, rfl, trivial⟩ me ?_)
        rintro ⟨k, x⟩ hk'
        try dsimp only
        obtain ⟨hk, hx⟩ : k ≤ 3 ∧ x = 3 - (k : Int) := hk'
        refine cw_seq ?_
        refine cw_seq ?_
        refine cw_region ?_
        refine rw_run tab_ok 2 [(0, _), (1, _), (6, _), (7, _), (8, _), (9, _), (22, _)] rfl ⟨rfl, rfl, rfl, rfl, rfl, rfl, rfl, trivial⟩ ?_
        refine rw_end ?_
        refine cw_condD rfl (fun hk3 => ?_) (fun hk3 => ?_)
        · have hk2 : k < 3 := by omega
          have htr : tR (a.getD i 0) (b.getD i 0) (k + 1) = if tR (a.getD i 0) (b.getD i 0) k = 0 ∧ standsB (a.getD i 0) x = true ∧ standsB (b.getD i 0) x = true then x else tR (a.getD i 0) (b.getD i 0) k := by rw [tR, hx]
          refine cw_skip (xw_then ?_)
          refine cw_cut (fun _ : Unit => True) (fun _ => [(0, .slice A1 a.length c1), (1, .slice A2 b.length c2), (6, .slice Ao out.length co), (7, .int .i64 (i : Int)), (8, .int .i64 (tR (a.getD i 0) (b.getD i 0) (k + 1))), (9, .int .i64 x)]) (fun _ => [ROw (.slice Ao out.length co) out]) ?_ ?_
          · rw [htr]
            refine cw_block ?_
            refine cw_seq ?_
            refine cw_region ?_
            refine rw_run tab_ok 3 [(0, _), (1, _), (6, _), (7, _), (8, _), (9, _), (27, _)] rfl ⟨rfl, rfl, rfl, rfl, rfl, rfl, rfl, trivial⟩ ?_
            refine rw_split (t := 27) rfl (fun f1 => ?_) (fun f1 => ?_)
            · have f1 := of_decide_eq_true f1
              refine rw_run tab_ok 2 [(0, _), (1, _), (6, _), (7, _), (8, _), (9, _), (27, _), (28, _), (29, _)] rfl ⟨rfl, rfl, rfl, rfl, rfl, rfl, rfl, rfl, rfl, trivial⟩ ?_
              refine rw_s (qs_idx Try.underlying35 Try.sizeOf3 (.ro h1) (by omega) rfl rfl rfl) rfl rfl ?_
              refine rw_s (qs_ld (SF.int (.ro h1) (by omega)) rfl rfl Try.isAgg3) rfl rfl ?_
              refine rw_run tab_ok 1 [(0, _), (1, _), (6, _), (7, _), (8, _), (9, _), (27, _), (31, _), (32, _)] rfl ⟨rfl, rfl, rfl, rfl, rfl, rfl, rfl, rfl, rfl, trivial⟩ ?_
              refine rw_op (ot_c0 rfl rfl rfl Try.call29 (fun w hw => rstands_any (a.getD i 0) x w)) rfl rfl (fun _ _ => ?_)
              refine rw_run tab_ok 2 [(0, _), (1, _), (6, _), (7, _), (8, _), (9, _), (35, _)] rfl ⟨rfl, rfl, rfl, rfl, rfl, rfl, rfl, trivial⟩ ?_
              refine rw_split (t := 35) rfl (fun f2 => ?_) (fun f2 => ?_)
              · refine rw_run tab_ok 2 [(0, _), (1, _), (6, _), (7, _), (8, _), (9, _), (35, _), (36, _), (37, _)] rfl ⟨rfl, rfl, rfl, rfl, rfl, rfl, rfl, rfl, rfl, trivial⟩ ?_
                refine rw_s (qs_idx Try.underlying35 Try.sizeOf3 (.ro h2) (by omega) rfl rfl rfl) rfl rfl ?_
                refine rw_s (qs_ld (SF.int (.ro h2) (by omega)) rfl rfl Try.isAgg3) rfl rfl ?_
                refine rw_run tab_ok 1 [(0, _), (1, _), (6, _), (7, _), (8, _), (9, _), (35, _), (39, _), (40, _)] rfl ⟨rfl, rfl, rfl, rfl, rfl, rfl, rfl, rfl, rfl, trivial⟩ ?_
                refine rw_op (ot_c0 rfl rfl rfl Try.call29 (fun w hw => rstands_any (b.getD i 0) x w)) rfl rfl (fun _ _ => ?_)
                refine rw_run tab_ok 1 [(0, _), (1, _), (6, _), (7, _), (8, _), (9, _), (42, _)] rfl ⟨rfl, rfl, rfl, rfl, rfl, rfl, rfl, trivial⟩ ?_
                refine rw_end ?_
                refine cw_cond rfl (fun f3 => ?_) (fun f3 => ?_)
                · rw [if_pos ⟨f1, f2, f3⟩]
                  refine cw_region ?_
                  refine rw_run tab_ok 2 [(0, _), (1, _), (6, _), (7, _), (8, _), (9, _)] rfl ⟨rfl, rfl, rfl, rfl, rfl, rfl, trivial⟩ ?_
                  refine rw_endx (xw_blkn ?_)
                  refine xw_join () (trivial) ⟨rfl, rfl, rfl, rfl, rfl, rfl, trivial⟩ me
                · rw [if_neg (fun h => by rw [h.2.2] at f3; cases f3)]
                  refine cw_skip (xw_blkn ?_)
                  refine xw_join () (trivial) ⟨rfl, rfl, rfl, rfl, rfl, rfl, trivial⟩ me
              · rw [if_neg (fun h => by rw [h.2.1] at f2; cases f2)]
                refine rw_run tab_ok 7 [(0, _), (1, _), (6, _), (7, _), (8, _), (9, _), (42, _)] rfl ⟨rfl, rfl, rfl, rfl, rfl, rfl, rfl, trivial⟩ ?_
                refine rw_end ?_
                refine cw_cond_f rfl ?_
                refine cw_skip (xw_blkn ?_)
                refine xw_join () (trivial) ⟨rfl, rfl, rfl, rfl, rfl, rfl, trivial⟩ me
            · have f1 := of_decide_eq_false f1
              rw [if_neg (fun h => f1 h.1)]
              refine rw_run tab_ok 15 [(0, _), (1, _), (6, _), (7, _), (8, _), (9, _), (42, _)] rfl ⟨rfl, rfl, rfl, rfl, rfl, rfl, rfl, trivial⟩ ?_
              refine rw_end ?_
              refine cw_cond_f rfl ?_
              refine cw_skip (xw_blkn ?_)
              refine xw_join () (trivial) ⟨rfl, rfl, rfl, rfl, rfl, rfl, trivial⟩ me
          · rintro _ _
            refine cw_region ?_
            refine rw_run tab_ok 1 [(0, _), (1, _), (6, _), (7, _), (8, _), (23, _)] rfl ⟨rfl, rfl, rfl, rfl, rfl, rfl, trivial⟩ ?_
            refine rw_s (qs_sub rfl rfl rfl (by omega)) rfl rfl ?_
            refine rw_run tab_ok 1 [(0, _), (1, _), (6, _), (7, _), (8, _), (9, _)] rfl ⟨rfl, rfl, rfl, rfl, rfl, rfl, trivial⟩ ?_
            refine rw_round (k + 1, x - 1) (⟨hk2, by show x - 1 = 3 - ((k + 1 : Nat) : Int); omega⟩) (by show 3 - (k + 1) < 3 - k; omega) ⟨rfl, rfl, rfl, rfl, rfl, rfl, trivial⟩ me
        · obtain rfl : k = 3 := by omega
          rw [hbt]
          refine cw_exit (xw_thenx (xw_thenx (xw_blk ?_)))
          refine xw_join () (trivial) ⟨rfl, rfl, rfl, rfl, rfl, trivial⟩ me
      · rintro _ _
        refine cw_seq ?_
        refine cw_seq ?_
        refine cw_region ?_
        refine rw_run tab_ok 2 [(0, _), (1, _), (6, _), (7, _), (8, _), (45, _)] rfl ⟨rfl, rfl, rfl, rfl, rfl, rfl, trivial⟩ ?_
        refine rw_end ?_
        refine cw_condD rfl (fun h0 => ?_) (fun h0 => ?_)
        · rw [if_pos h0] at hst
          have hn := joinL_none hst hl
          refine cw_seq ?_
          refine cw_region ?_
          refine rw_run tab_ok 2 [(4, _), (5, _)] rfl ⟨rfl, rfl, trivial⟩ ?_
          refine rw_end ?_
          refine cw_ret (xw_thenr (xw_blkr (xw_thenr (xw_thenr (xw_blkr (xw_thenr ?_))))))
          refine xw_ret2 Try.results22 (rv_tmp rfl) (rv_tmp rfl) ?_
          intro w hw
          rw [hn]
          exact ⟨_, rfl, nil_ret hw⟩
        · rw [if_neg h0] at hst
          refine cw_skip (xw_then ?_)
          refine cw_region ?_
          refine rw_run tab_ok 2 [(0, _), (1, _), (7, _), (46, _), (47, _)] rfl ⟨rfl, rfl, rfl, rfl, rfl, trivial⟩ ?_
          refine rw_op (ot_bsl (cs := [_]) Try.underlying35 Try.sizeOf3 Try.zeroValue3 rfl rfl rfl rfl rfl) rfl rfl (fun g1 _ => ?_)
          refine rw_op (ot_app1 (α := Int) (bytes := 8) (bothI (a.getD i 0) (b.getD i 0)) [] rfl Try.underlying35 (info_ex Try.inI) rfl (perm2 fc fc) (hel_flat (bothI_i64 i1 i2)) (by omega) (by omega) rfl rfl rfl) rfl rfl (fun ⟨A5, c5⟩ _ => ?_)
          try dsimp only
          refine rw_run tab_ok 1 [(0, _), (1, _), (6, _), (7, _)] rfl ⟨rfl, rfl, rfl, rfl, trivial⟩ ?_
          refine rw_endx (xw_blkn (xw_then ?_))
          refine cw_region ?_
          refine rw_run tab_ok 1 [(0, _), (1, _), (6, _), (19, _)] rfl ⟨rfl, rfl, rfl, rfl, trivial⟩ ?_
          refine rw_s (qs_add rfl rfl rfl (by omega)) rfl rfl ?_
          refine rw_run tab_ok 1 [(0, _), (1, _), (6, _), (7, _)] rfl ⟨rfl, rfl, rfl, rfl, trivial⟩ ?_
          refine rw_round (i + 1, out ++ [bothI (a.getD i 0) (b.getD i 0)], A5, c5) (⟨hil, hst⟩) (by show _ - _ < _ - _; omega) ⟨rfl, rfl, rfl, rfl, trivial⟩ me
    · obtain rfl : i = a.length := by omega
      rw [List.take_length, hl, List.take_length] at hj
      refine cw_exit (xw_thenx (xw_thenx (xw_blk (xw_then ?_))))
      refine cw_seq ?_
      refine cw_region ?_
      refine rw_run tab_ok 3 [(4, _), (5, _)] rfl ⟨rfl, rfl, trivial⟩ ?_
      refine rw_end ?_
      refine cw_ret ?_
      refine xw_ret2 Try.results22 (rv_tmp rfl) (rv_tmp rfl) ?_
      intro w hw
      rw [hj]
      exact ⟨_, rfl, own_ret hw⟩
end Go.Proofs.Ytejpkcheimgdfaa

-- W12
/- The walker: what reads as long as its own blocks, and all that stood at the entry, are as they are. -/
namespace Go.Proofs.Ytejpkcheimgdfaa
open Go.RowKit

def RRb {α : Type} [Rep α] (B : Nat) (w0 : World) (v : Value) (xs : List α) : Res where
  P w F := (∀ b, F b → b < w.heap.size) ∧ ∀ w', (∀ b, F b → w'.heap[b]? = w.heap[b]?) → Cells B w0 w' → B ≤ w'.heap.size → Sl w' v xs
  loc {w w' F} h hw := ⟨fun b hb => by
      have h1 := h.1 b hb
      have h2 := hw b hb
      rw [Array.getElem?_eq_getElem h1] at h2
      exact (Array.getElem?_eq_some_iff.1 h2).1, fun w'' h'' => h.2 w'' fun b hb => (h'' b hb).trans (hw b hb)⟩
  lt h hb := h.1 _ hb
section
variable {B : Nat} {w0 w : World} {H H' : List Res}
theorem SF.rb {α : Type} [Rep α] {A : Option Addr} {m c : Nat} {xs : List α} (hl : xs.length = m) (hp : Foc H (RRb B w0 (.slice A m c) xs) H') : SF B w0 H A m c xs :=
  ⟨hl, fun w hw => by obtain ⟨F, h, _⟩ := hw.rd hp; exact h.2 w (fun _ _ => rfl) (.of_below hw.below) hw.le⟩
theorem rb_ro {α : Type} [Rep α] {v : Value} {xs : List α} (h : SlB w0 B v xs) (hw : Cw B w0 H w) : Cw B w0 (RRb B w0 v xs :: H) w := by
  obtain ⟨h1, h2, F, h3, h4⟩ := hw
  exact ⟨h1, h2, F, ⟨fun _ => False, F, ⟨fun _ h => h.elim, fun w' _ hc hb => (h.keep hc).more hb⟩, h3, fun _ h _ => h, fun b => by simp⟩, h4⟩
theorem rb_own {α : Type} [Ow α] {v : Value} {xs : List α} (h : Cw B w0 (ROw v xs :: H) w) : Cw B w0 (RRb B w0 v xs :: H) w := by
  refine h.upd fun F ho _ => ⟨F, ⟨fun b hb => OwL.lt (show OwL w F v xs from ho) hb, fun w' hw' _ _ => OwL.sl (OwL.frame (show OwL w F v xs from ho) hw')⟩, rfl, rfl, rfl, Nat.le_refl _, fun _ _ _ => rfl, fun b hb => .inl hb⟩
theorem rb_of {α : Type} [Rep α] {Hel : List Res} {v : Value} {xs : List α} (hr : ∀ w F, Hs w Hel F → Cells B w0 w → B ≤ w.heap.size → Sl w v xs) (h : Cw B w0 (Hel ++ H) w) : Cw B w0 (RRb B w0 v xs :: H) w := by
  have h := Cw.pack h
  refine h.upd fun F ho _ => ?_
  have ho : Hs w Hel F := ho
  exact ⟨F, ⟨fun b hb => Hs.lt ho hb, fun w' hw' hc hb => hr w' F (Hs.loc ho hw') hc hb⟩, rfl, rfl, rfl, Nat.le_refl _, fun _ _ _ => rfl, fun b hb => .inl hb⟩
end
end Go.Proofs.Ytejpkcheimgdfaa

-- W13
/- Functions of a program as headers: their cells, with the inner slices as they are. -/
namespace Go.Proofs.Ytejpkcheimgdfaa
open Go.RowKit

structure HFun where
  p : Int
  v1 : Value
  r : Int
  v2 : Value
instance : Inhabited HFun := ⟨⟨0, .slice none 0 0, 0, .slice none 0 0⟩⟩
def HFun.wf (h : HFun) : Prop := (I64 h.p ∧ I64 h.r) ∧ h.v1.oneCell' = true ∧ h.v2.oneCell' = true
instance : Rep HFun where
  k := 4
  rep _ _ cs h := cs = [.int .i64 h.p, h.v1, .int .i64 h.r, h.v2] ∧ h.wf
  len h := by rw [h.1]; rfl
  keep h _ := h
  more h _ := h
  one h := by rw [h.1]; simpa [Value.oneCell', HFun.wf] using h.2.2
instance : Ow HFun where
  ty := 54
  own _ F cs h := (cs = [.int .i64 h.p, h.v1, .int .i64 h.r, h.v2] ∧ h.wf) ∧ ∀ b, ¬ F b
  rd_ h := h.1
  lt h hb := (h.2 _ hb).elim
  frame h _ := h
  cong h hf := ⟨h.1, fun b hb => h.2 b ((hf b).2 hb)⟩
instance : FOw HFun where
  enc h := [.int .i64 h.p, h.v1, .int .i64 h.r, h.v2]
  wf h := h.wf
  rep_iff := Iff.rfl
  own_iff := Iff.rfl
instance : SlTy HFun := ⟨22⟩
/-- The header of a function whose slices nobody writes. -/
def HOf (B : Nat) (w0 : World) (h : HFun) (f : MFunc) : Prop := h.p = f.params ∧ h.r = f.result ∧ (I64 f.params ∧ I64 f.result) ∧ SlB w0 B h.v1 f.locals ∧ SlB w0 B h.v2 f.code
theorem HOf.rep {B : Nat} {w0 w : World} {h : HFun} {f : MFunc} (hh : HOf B w0 h f) (hc : Cells B w0 w) (hb : B ≤ w.heap.size) : Rep.rep w w.heap.size [.int .i64 h.p, h.v1, .int .i64 h.r, h.v2] f := by
  obtain ⟨h1, h2, h3, h4, h5⟩ := hh
  exact ⟨h.v1, h.v2, by rw [h1, h2], h3, (h4.keep hc).more hb, (h5.keep hc).more hb⟩
theorem slice_one {B : Nat} {w0 : World} {α : Type} [Rep α] {v : Value} {xs : List α} (h : SlB w0 B v xs) : v.oneCell' = true := by
  obtain ⟨A, c, rfl, _⟩ := h.form
  rfl
/-- A slice of functions that nobody writes, as headers. -/
theorem SlB.hfun {B : Nat} {w0 : World} {v : Value} {fs : List MFunc} (h : SlB w0 B v fs) : ∃ hs : List HFun, hs.length = fs.length ∧ (∀ (i : Nat) (a : HFun) (f : MFunc), hs[i]? = some a → fs[i]? = some f → HOf B w0 a f) ∧ SlB w0 B v hs := by
  obtain ⟨A, c, hv, h1, h2, h3, h4⟩ := h
  have key : ∀ i : Nat, ∃ a : HFun, ∀ f, fs[i]? = some f → HOf B w0 a f ∧ ∀ b off, A = some ⟨b, off, none⟩ → ∀ j u, ([.int .i64 a.p, a.v1, .int .i64 a.r, a.v2] : List Value)[j]? = some u → w0.cell? ⟨b, off + i * 4 + j, none⟩ = some u := fun i => by
    cases e : fs[i]? with
    | none => exact ⟨default, fun f hf => by cases hf⟩
    | some f =>
      have h0 : 0 < fs.length := by have := (List.getElem?_eq_some_iff.1 e).1; omega
      obtain ⟨b, off, hA, hb, hi⟩ := h4 h0
      obtain ⟨cs, ⟨v1, v2, hcs, hi1, hs1, hs2⟩, hj⟩ := hi i f e
      subst hcs
      refine ⟨⟨f.params, v1, f.result, v2⟩, fun f' hf => ?_⟩
      cases hf
      refine ⟨⟨rfl, rfl, hi1, hs1, hs2⟩, fun b' off' hA' j u hu => ?_⟩
      rw [hA] at hA'
      cases hA'
      exact hj j u hu
  obtain ⟨g, hg⟩ := Classical.axiomOfChoice key
  have hl : ((List.range fs.length).map g).length = fs.length := by simp
  have hget : ∀ (i : Nat) (a : HFun), ((List.range fs.length).map g)[i]? = some a → i < fs.length ∧ a = g i := fun i a ha => by
    obtain ⟨h5, h6⟩ := List.getElem?_eq_some_iff.1 ha
    rw [hl] at h5
    simp at h6
    exact ⟨h5, h6.symm⟩
  refine ⟨(List.range fs.length).map g, hl, fun i a f ha hf => ?_, A, c, by rw [hl]; exact hv, by rw [hl]; exact h1, h2, by rw [hl]; exact h3, fun h0 => ?_⟩
  · obtain ⟨_, rfl⟩ := hget i a ha
    exact (hg i f hf).1
  · rw [hl] at h0
    obtain ⟨b, off, hA, hb, hi⟩ := h4 h0
    refine ⟨b, off, hA, hb, fun i a ha => ?_⟩
    obtain ⟨hil, rfl⟩ := hget i a ha
    obtain ⟨k1, k2⟩ := hg i _ (List.getElem?_eq_getElem hil)
    obtain ⟨e1, e2, e3, e4, e5⟩ := k1
    exact ⟨_, ⟨rfl, ⟨by rw [e1, e2]; exact e3, slice_one e4, slice_one e5⟩⟩, fun j u hu => k2 b off hA j u hu⟩
/-- A row of headers reads as the functions. -/
theorem read_hfun {B : Nat} {w0 : World} {v : Value} {hs : List HFun} {fs : List MFunc} (hl : hs.length = fs.length) (hr : ∀ (i : Nat) (a : HFun) (f : MFunc), hs[i]? = some a → fs[i]? = some f → HOf B w0 a f) :
    ∀ w F, Hs w [ROw v hs] F → Cells B w0 w → B ≤ w.heap.size → Sl w v fs := by
  rintro w F ⟨F1, F2, h1, _, _, _⟩ hc hb
  have h1 : OwL w F1 v hs := h1
  obtain ⟨A, c, hv, k1, k2, k3, k4⟩ := h1.sl
  refine ⟨A, c, by rw [hv, hl], by rw [← hl]; exact k1, k2, by rw [← hl]; exact k3, fun h0 => ?_⟩
  obtain ⟨b, off, hA, hb2, hi⟩ := k4 (by rw [hl]; exact h0)
  refine ⟨b, off, hA, hb2, fun i f hf => ?_⟩
  have hil : i < hs.length := by rw [hl]; exact (List.getElem?_eq_some_iff.1 hf).1
  obtain ⟨cs, ⟨hcs, _⟩, hj⟩ := hi i _ (List.getElem?_eq_getElem hil)
  subst hcs
  exact ⟨_, (hr i _ f (List.getElem?_eq_getElem hil) hf).rep hc hb, fun j u hu => hj j u hu⟩
end Go.Proofs.Ytejpkcheimgdfaa

-- W14
/- The walker: a slice of one's own whose elements have slices of their own, opened: the headers as a row, and what the elements have as pieces. -/
namespace Go.Proofs.Ytejpkcheimgdfaa
open Go.RowKit

/-! What an operation leaves, in other words -/
section
variable {P : Program} {n B : Nat} {w0 : World} {o : Oper} {env : Env} {H : List Res}
theorem OT.mem {γ : Type} {Φ : γ → Prop} {val : γ → Value} {H' H'' : γ → List Res} (h : OT P n B w0 o env H Φ val H') (hm : ∀ g w, Cw B w0 (H' g) w → Cw B w0 (H'' g) w) : OT P n B w0 o env H Φ val H'' := fun a w hf hw =>
  Oper.wp_mono_ (h a w hf hw) (fun _ _ ⟨g, h1, h2, h3⟩ => ⟨g, h1, h2, hm g _ h3⟩) (fun _ _ _ h => h)
end
/-- Elements of α, as headers of η and pieces. -/
class Opn (α : Type) (η : outParam Type) [Ow α] [FOw η] where
  parts : η → α → List Res
  ok : η → α → Prop
  kk : Rep.k η = Rep.k α
  tt : Ow.ty η = Ow.ty α
  opn : ∀ {w : World} {F : Nat → Prop} {cs : List Value} {x : α}, Ow.own w F cs x → ∃ h : η, (cs = FOw.enc h ∧ FOw.wf h) ∧ ok h x ∧ Hs w (parts h x) F
  cls : ∀ {w : World} {F : Nat → Prop} {h : η} {x : α}, FOw.wf h → ok h x → Hs w (parts h x) F → Ow.own w F (FOw.enc h) x
section
variable {α η : Type} [Ow α] [FOw η] [Opn α η]
def OpnOk (l : List (η × α)) : Prop := ∀ p ∈ l, Opn.ok p.1 p.2
/-- What all of them have. -/
def RPL (l : List (η × α)) : Res := Res.pack (l.flatMap fun p => Opn.parts p.1 p.2)
theorem Hs.cong {w : World} : ∀ {l : List Res} {F F' : Nat → Prop}, Hs w l F → (∀ b, F b ↔ F' b) → Hs w l F'
  | [], _, _, h, e => fun b hb => h b ((e b).2 hb)
  | _ :: _, _, _, ⟨F1, F2, h1, h2, h3, h4⟩, e => ⟨F1, F2, h1, h2, h3, fun b => (e b).symm.trans (h4 b)⟩
theorem hs_all {w : World} : ∀ (l : List (η × α)) (Fs : Nat → Nat → Prop), (∀ (i : Nat) (p : η × α), l[i]? = some p → Hs w (Opn.parts p.1 p.2) (Fs i)) → (∀ i j b, i < l.length → j < l.length → Fs i b → Fs j b → i = j) →
    Hs w (l.flatMap fun p => Opn.parts p.1 p.2) (fun b => ∃ i, i < l.length ∧ Fs i b)
  | [], _, _, _ => fun b ⟨i, hi, _⟩ => by simp at hi
  | p :: l, Fs, h, hd => by
    have h1 := h 0 p rfl
    have h2 := hs_all l (fun i => Fs (i + 1)) (fun i q hq => h (i + 1) q (by simpa using hq)) (fun i j b hi hj hb hb' => by
      have := hd (i + 1) (j + 1) b (by simp; omega) (by simp; omega) hb hb'
      omega)
    rw [List.flatMap_cons]
    refine (h1.join h2 fun b hb ⟨i, hi, hb'⟩ => ?_).cong fun b => ?_
    · have := hd 0 (i + 1) b (by simp) (by simp; omega) hb hb'
      omega
    · constructor
      · rintro (hb | ⟨i, hi, hb⟩)
        · exact ⟨0, by simp, hb⟩
        · exact ⟨i + 1, by simp; omega, hb⟩
      · rintro ⟨i, hi, hb⟩
        cases i with
        | zero => exact .inl hb
        | succ i => exact .inr ⟨i, by simp at hi; omega, hb⟩
theorem all_hs {w : World} : ∀ (l : List (η × α)) (F : Nat → Prop), Hs w (l.flatMap fun p => Opn.parts p.1 p.2) F → ∃ Fs : Nat → Nat → Prop, (∀ (i : Nat) (p : η × α), l[i]? = some p → Hs w (Opn.parts p.1 p.2) (Fs i)) ∧
    (∀ i j b, i < l.length → j < l.length → Fs i b → Fs j b → i = j) ∧ ∀ b, F b ↔ ∃ i, i < l.length ∧ Fs i b
  | [], F, h => ⟨fun _ _ => False, by simp, by simp, fun b => by simp [show ¬ F b from h b]⟩
  | p :: l, F, h => by
    rw [List.flatMap_cons] at h
    obtain ⟨F1, F2, h1, h2, hd, hF⟩ := h.split
    obtain ⟨Fs, k1, k2, k3⟩ := all_hs l F2 h2
    refine ⟨fun i => match i with | 0 => F1 | i + 1 => Fs i, ?_, ?_, ?_⟩
    · intro i q hq
      cases i with
      | zero => simp at hq; subst hq; exact h1
      | succ i => exact k1 i q (by simpa using hq)
    · intro i j b hi hj hb hb'
      simp only [List.length_cons] at hi hj
      cases i with
      | zero =>
        cases j with
        | zero => rfl
        | succ j => exact (hd b hb ((k3 b).2 ⟨j, by omega, hb'⟩)).elim
      | succ i =>
        cases j with
        | zero => exact (hd b hb' ((k3 b).2 ⟨i, by omega, hb⟩)).elim
        | succ j => have := k2 i j b (by omega) (by omega) hb hb'; omega
    · intro b
      rw [hF b, k3 b]
      constructor
      · rintro (hb | ⟨i, hi, hb⟩)
        · exact ⟨0, by simp, hb⟩
        · exact ⟨i + 1, by simp; omega, hb⟩
      · rintro ⟨i, hi, hb⟩
        cases i with
        | zero => exact .inl hb
        | succ i => exact .inr ⟨i, by simp at hi; omega, hb⟩
variable {B : Nat} {w0 : World} {H H' : List Res}
theorem Cw.unpack {w : World} {l1 l2 : List Res} (h : Cw B w0 (Res.pack l1 :: l2) w) : Cw B w0 (l1 ++ l2) w := by
  obtain ⟨h1, h2, F, ⟨F1, F2, h5, h6, h7, h8⟩, h4⟩ := h
  exact ⟨h1, h2, F, (Hs.join (show Hs w l1 F1 from h5) h6 h7).cong fun b => (h8 b).symm, h4⟩
/-- Opened. -/
theorem opn_ow {v : Value} {xs : List α} {w : World} (h : Cw B w0 (ROw v xs :: H) w) : ∃ l : List (η × α), l.map Prod.snd = xs ∧ OpnOk l ∧ Cw B w0 (ROw v (l.map Prod.fst) :: RPL l :: H) w := by
  obtain ⟨h1, h2, F, ⟨F1, F2, h5, h6, h7, h8⟩, h4⟩ := h
  have h5 : OwL w F1 v xs := h5
  rcases h5 with ⟨rfl, rfl, h9⟩ | ⟨g, p, cap, cur, Fs, ho⟩
  · exact ⟨[], rfl, by simp [OpnOk], h1, h2, F, ⟨fun _ => False, F, OwL.nil_ w, ⟨fun _ => False, F, fun _ h => h, h6.cong fun b => by rw [h8 b]; simp [h9 b], fun _ h => h.elim, fun b => by simp⟩, fun _ h => h.elim, fun b => by simp⟩, h4⟩
  · have hex : ∀ i, i < xs.length → ∃ q : η × α, xs[i]? = some q.2 ∧ ((cur.toList.drop (p + i * Rep.k α)).take (Rep.k α) = FOw.enc q.1 ∧ FOw.wf q.1) ∧ Opn.ok q.1 q.2 ∧ Hs w (Opn.parts q.1 q.2) (Fs i) := fun i hi => by
      obtain ⟨h, k1, k2, k3⟩ := Opn.opn (ho.el i _ (List.getElem?_eq_getElem hi))
      exact ⟨(h, xs[i]), List.getElem?_eq_getElem hi, k1, k2, k3⟩
    have key : ∀ n, n ≤ xs.length → ∃ l : List (η × α), l.length = n ∧ ∀ i q, l[i]? = some q → xs[i]? = some q.2 ∧ ((cur.toList.drop (p + i * Rep.k α)).take (Rep.k α) = FOw.enc q.1 ∧ FOw.wf q.1) ∧ Opn.ok q.1 q.2 ∧ Hs w (Opn.parts q.1 q.2) (Fs i) := by
      intro n
      induction n with
      | zero => exact fun _ => ⟨[], rfl, fun i q h => by simp at h⟩
      | succ n ih =>
        intro hn
        obtain ⟨l, hl, hq⟩ := ih (by omega)
        obtain ⟨q, hq2⟩ := hex n (by omega)
        refine ⟨l ++ [q], by simp [hl], fun i r hr => ?_⟩
        by_cases hi : i < l.length
        · rw [List.getElem?_append_left hi] at hr; exact hq i r hr
        · rw [List.getElem?_append_right (by omega)] at hr
          have h0 : i - l.length < 1 := (List.getElem?_eq_some_iff.1 hr).1
          obtain rfl : i = n := by omega
          rw [show i - l.length = 0 from by omega] at hr
          simp at hr
          subst hr
          exact hq2
    obtain ⟨l, hl, hq⟩ := key xs.length (Nat.le_refl _)
    have hsnd : l.map Prod.snd = xs := by
      apply List.ext_getElem?
      intro i
      rw [List.getElem?_map]
      by_cases hi : i < l.length
      · have := (hq i l[i] (List.getElem?_eq_getElem hi)).1
        rw [List.getElem?_eq_getElem hi, this]
        rfl
      · rw [List.getElem?_eq_none (by omega), List.getElem?_eq_none (by omega)]
        rfl
    have hall := hs_all (w := w) l Fs (fun i q h => (hq i q h).2.2.2) (fun i j b hi hj => ho.dj i j b (by omega) (by omega))
    refine ⟨l, hsnd, fun q hm => ?_, h1, h2, F, ⟨fun b => b = g, fun b => (∃ i, i < l.length ∧ Fs i b) ∨ F2 b, .inr ⟨g, p, cap, cur, fun _ _ => False, ?_⟩, ⟨_, F2, hall, h6, fun b ⟨i, hi, hb⟩ hb' => h7 b ((ho.hF b).2 (.inr ⟨i, by omega, hb⟩)) hb', fun b => Iff.rfl⟩, ?_, ?_⟩, h4⟩
    · obtain ⟨i, hi, rfl⟩ := List.getElem_of_mem hm
      exact (hq i _ (List.getElem?_eq_getElem hi)).2.2.1
    · refine ⟨by rw [List.length_map, hl]; exact ho.hv, by rw [Opn.tt (α := α) (η := η)]; exact ho.hg, by rw [List.length_map, hl]; exact ho.hn, ho.hc, by rw [Opn.kk (α := α) (η := η)]; exact ho.hs, by rw [List.length_map, hl]; exact ho.hl, fun i h hh => ?_, fun b => by simp, fun _ _ h => h, fun _ _ _ _ _ h => h.elim⟩
      rw [List.getElem?_map] at hh
      obtain ⟨q, hq1, rfl⟩ := Option.map_eq_some_iff.1 hh
      rw [Opn.kk (α := α) (η := η)]
      exact FOw.own_iff.2 ⟨(hq i q hq1).2.1, fun _ h => h⟩
    · rintro b rfl (⟨i, hi, hb⟩ | hb)
      · exact ho.ng i (by omega) hb
      · exact h7 b ((ho.hF b).2 (.inl rfl)) hb
    · intro b
      rw [h8 b, ho.hF b, ← hl, or_assoc]
/-- Closed again. -/
theorem cls_ow {v : Value} {l : List (η × α)} {w : World} (hok : OpnOk l) (h : Cw B w0 (ROw v (l.map Prod.fst) :: RPL l :: H) w) : Cw B w0 (ROw v (l.map Prod.snd) :: H) w := by
  obtain ⟨h1, h2, F, ⟨F1, F2, h5, ⟨F3, F4, k3, k4, k5, k6⟩, h7, h8⟩, h4⟩ := h
  have h5 : OwL w F1 v (l.map Prod.fst) := h5
  have k3 : Hs w (l.flatMap fun p => Opn.parts p.1 p.2) F3 := k3
  rcases h5 with ⟨rfl, h9, h10⟩ | ⟨g, p, cap, cur, Fs, ho⟩
  · have : l = [] := by simpa using h9
    subst this
    exact ⟨h1, h2, F, ⟨fun _ => False, F, OwL.nil_ w, k4.cong fun b => by rw [h8 b, k6 b]; simp [h10 b, show ¬ F3 b from k3 b], fun _ h => h.elim, fun b => by simp⟩, h4⟩
  · obtain ⟨Gs, m1, m2, m3⟩ := all_hs l F3 k3
    have hno : ∀ i b, i < l.length → ¬ Fs i b := fun i b hi hb => ((FOw.own_iff.1 (ho.el i _ (List.getElem?_eq_getElem (by simpa using hi)))).2 b) hb
    have hg : ∀ b, F1 b ↔ b = g := fun b => by
      rw [ho.hF b]
      constructor
      · rintro (h | ⟨i, hi, hb⟩)
        · exact h
        · exact (hno i b (by simpa using hi) hb).elim
      · exact .inl
    refine ⟨h1, h2, F, ⟨fun b => b = g ∨ ∃ i, i < l.length ∧ Gs i b, F4, .inr ⟨g, p, cap, cur, Gs, ?_⟩, k4, ?_, ?_⟩, h4⟩
    · refine ⟨by rw [List.length_map]; have := ho.hv; rwa [List.length_map] at this, by rw [← Opn.tt (α := α) (η := η)]; exact ho.hg, by have := ho.hn; simpa using this, ho.hc, by rw [← Opn.kk (α := α) (η := η)]; exact ho.hs, by have := ho.hl; simpa using this, fun i x hx => ?_, fun b => by simp, fun i hi hb => ?_, fun i j b hi hj => m2 i j b (by simpa using hi) (by simpa using hj)⟩
      · rw [List.getElem?_map] at hx
        obtain ⟨q, hq1, rfl⟩ := Option.map_eq_some_iff.1 hx
        have hel := FOw.own_iff.1 (ho.el i q.1 (by rw [List.getElem?_map, hq1]; rfl))
        rw [Opn.kk (α := α) (η := η)] at hel
        rw [hel.1.1]
        exact Opn.cls hel.1.2 (hok q (List.mem_of_getElem? hq1)) (m1 i q hq1)
      · exact h7 g ((hg g).2 rfl) ((k6 g).2 (.inl ((m3 g).2 ⟨i, by simpa using hi, hb⟩)))
    · rintro b (rfl | ⟨i, hi, hb⟩) hb'
      · exact h7 b ((hg b).2 rfl) ((k6 b).2 (.inr hb'))
      · exact k5 b ((m3 b).2 ⟨i, hi, hb⟩) hb'
    · intro b
      rw [h8 b, k6 b, hg b, m3 b, or_assoc]
theorem flat_perm {β γ : Type} (f : β → List γ) {l l' : List β} (h : l.Perm l') : (l.flatMap f).Perm (l'.flatMap f) := by
  induction h with
  | nil => exact .refl _
  | cons x _ ih => rw [List.flatMap_cons, List.flatMap_cons]; exact List.Perm.append_left _ ih
  | swap x y l =>
    simp only [List.flatMap_cons]
    rw [← List.append_assoc, ← List.append_assoc]
    exact List.Perm.append_right _ List.perm_append_comm
  | trans _ _ h1 h2 => exact h1.trans h2
/-- One of them by itself. -/
theorem rpl_perm {l l' : List (η × α)} {w : World} (hp : l.Perm l') (h : Cw B w0 (RPL l :: H) w) : Cw B w0 (RPL l' :: H) w := by
  have h := Cw.unpack h
  refine Cw.pack (h.perm (List.Perm.append_right _ (flat_perm _ hp)))
theorem rpl_cons {p : η × α} {l : List (η × α)} {w : World} (h : Cw B w0 (RPL (p :: l) :: H) w) : Cw B w0 (Opn.parts p.1 p.2 ++ RPL l :: H) w := by
  have h := Cw.unpack h
  rw [List.flatMap_cons, List.append_assoc] at h
  exact (Cw.pack (h.perm (List.perm_append_comm_assoc _ _ _))).perm List.perm_middle.symm
theorem rpl_back {p : η × α} {l : List (η × α)} {w : World} (h : Cw B w0 (Opn.parts p.1 p.2 ++ RPL l :: H) w) : Cw B w0 (RPL (p :: l) :: H) w := by
  have h := Cw.unpack (h.perm List.perm_middle)
  refine Cw.pack ?_
  rw [List.flatMap_cons, List.append_assoc]
  exact h.perm (List.perm_append_comm_assoc _ _ _)
theorem perm_at {β : Type} : ∀ {l : List β} {k : Nat} (hk : k < l.length), l.Perm (l[k] :: l.eraseIdx k)
  | _ :: _, 0, _ => .refl _
  | x :: l, k + 1, hk => by
    have := perm_at (l := l) (k := k) (by simpa using hk)
    simp only [List.getElem_cons_succ, List.eraseIdx_cons_succ]
    exact (List.Perm.cons x this).trans (List.Perm.swap ..)
theorem perm_set {β : Type} : ∀ {l : List β} {k : Nat} (_ : k < l.length) (q : β), (l.set k q).Perm (q :: l.eraseIdx k)
  | _ :: _, 0, _, _ => .refl _
  | x :: l, k + 1, hk, q => by
    have := perm_set (l := l) (k := k) (by simpa using hk) q
    simp only [List.set_cons_succ, List.eraseIdx_cons_succ]
    exact (List.Perm.cons x this).trans (List.Perm.swap ..)
theorem rpl_at {l : List (η × α)} {k : Nat} {w : World} (hk : k < l.length) (h : Cw B w0 (RPL l :: H) w) : Cw B w0 (Opn.parts l[k].1 l[k].2 ++ RPL (l.eraseIdx k) :: H) w := rpl_cons (rpl_perm (perm_at hk) h)
theorem rpl_set {l : List (η × α)} {k : Nat} {q : η × α} {w : World} (hk : k < l.length) (h : Cw B w0 (Opn.parts q.1 q.2 ++ RPL (l.eraseIdx k) :: H) w) : Cw B w0 (RPL (l.set k q) :: H) w := rpl_perm (perm_set hk q).symm (rpl_back h)
theorem rpl_last {l : List (η × α)} {q : η × α} {w : World} (h : Cw B w0 (RPL (l ++ [q]) :: H) w) : Cw B w0 (Opn.parts q.1 q.2 ++ RPL l :: H) w := rpl_cons (rpl_perm (List.perm_append_singleton q l) h)
theorem rpl_snoc {l : List (η × α)} {q : η × α} {w : World} (h : Cw B w0 (Opn.parts q.1 q.2 ++ RPL l :: H) w) : Cw B w0 (RPL (l ++ [q]) :: H) w := rpl_perm (List.perm_append_singleton q l).symm (rpl_back h)
theorem OpnOk.set {l : List (η × α)} {k : Nat} {q : η × α} (h : OpnOk l) (hq : Opn.ok q.1 q.2) : OpnOk (l.set k q) := fun p hp => by
  rcases List.mem_or_eq_of_mem_set hp with h1 | h1
  · exact h p h1
  · subst h1; exact hq
theorem OpnOk.snoc {l : List (η × α)} {q : η × α} (h : OpnOk l) (hq : Opn.ok q.1 q.2) : OpnOk (l ++ [q]) := fun p hp => by
  rcases List.mem_append.1 hp with h1 | h1
  · exact h p h1
  · simp at h1; subst h1; exact hq
theorem OpnOk.left {l : List (η × α)} {l2 : List (η × α)} (h : OpnOk (l ++ l2)) : OpnOk l := fun p hp => h p (List.mem_append_left _ hp)
section
variable {P : Program} {n : Nat} {Q : Exit → Act → World → Prop} {env : Env} {x : Code} {ops : Array Oper} {os : List Oper}
theorem cw_opn {v : Value} {xs : List α} (hp : Foc H (ROw v xs) H') (h : ∀ l : List (η × α), l.map Prod.snd = xs → OpnOk l → CW P n B w0 x Q env (ROw v (l.map Prod.fst) :: RPL l :: H')) : CW P n B w0 x Q env H := fun a w hf hw => by
  obtain ⟨l, h1, h2, h3⟩ := opn_ow (hw.perm hp)
  exact h l h1 h2 a w hf h3
theorem rw_opn {v : Value} {xs : List α} (hp : Foc H (ROw v xs) H') (h : ∀ l : List (η × α), l.map Prod.snd = xs → OpnOk l → RW P n B w0 ops Q os env (ROw v (l.map Prod.fst) :: RPL l :: H')) : RW P n B w0 ops Q os env H := fun a w hf hw => by
  obtain ⟨l, h1, h2, h3⟩ := opn_ow (hw.perm hp)
  exact h l h1 h2 a w hf h3
end
end
end Go.Proofs.Ytejpkcheimgdfaa

-- V22
/- Verify: its law More. -/
namespace Go.Proofs.Ytejpkcheimgdfaa
open Go.RowKit

set_option maxRecDepth 100000 in
set_option maxHeartbeats 4000000 in
theorem verifyMore_any (A A1 A2 : Option Addr) (c c1 c2 : Nat) (fs : List MFunc) (m : MFunc) (z : Int) (w : World) (hs : Sl w (.slice A fs.length c) fs) (h1 : Sl w (.slice A1 m.locals.length c1) m.locals) (h2 : Sl w (.slice A2 m.code.length c2) m.code) (hi : I64 m.params ∧ I64 m.result) (hl : fs.length * 64 ≤ 140737488351232) :
    Calls Try.prog 8 #[.agg #[.slice A fs.length c], .agg #[.int .i64 m.params, .slice A1 m.locals.length c1, .int .i64 m.result, .slice A2 m.code.length c2], .int .i64 z] w fun e w' => e = .returned (.bool true) ∧ Below w.heap.size w w' := by
  have b1 := len_bd hs
  obtain ⟨hf, hfl, hfr, hfs⟩ := SlB.hfun hs
  obtain ⟨q, hq⟩ : ∃ q, hf ++ [(⟨m.params, .slice A1 m.locals.length c1, m.result, .slice A2 m.code.length c2⟩ : HFun)] = q := ⟨_, rfl⟩
  have hql : q.length = (fs ++ [m]).length := by rw [← hq]; simp [hfl]
  have hqr : ∀ (i : Nat) (a : HFun) (f : MFunc), q[i]? = some a → (fs ++ [m])[i]? = some f → HOf w.heap.size w a f := fun i a f ha hf2 => by
    rw [← hq] at ha
    by_cases hlt : i < fs.length
    · rw [List.getElem?_append_left (by omega)] at ha
      rw [List.getElem?_append_left hlt] at hf2
      exact hfr i a f ha hf2
    · rw [List.getElem?_append_right (by omega)] at ha hf2
      rw [show i - hf.length = i - fs.length from by omega] at ha
      obtain ⟨hi0, rfl⟩ := List.getElem?_eq_some_iff.1 ha
      obtain ⟨_, rfl⟩ := List.getElem?_eq_some_iff.1 hf2
      simp at hi0
      have : i - fs.length = 0 := by omega
      simp only [this, List.getElem_cons_zero]
      exact ⟨rfl, rfl, hi, h1, h2⟩
  refine enter Try.func8 rfl Try.ntmps8 rfl ?_
  refine cw_seq ?_
  refine cw_region ?_
  refine rw_op (ot_box rfl rfl rfl) rfl rfl (fun g1 _ => ?_)
  refine rw_op (ot_box rfl rfl rfl) rfl rfl (fun g2 _ => ?_)
  refine rw_run tab_ok 1 [(2, _), (3, _), (4, _)] rfl ⟨rfl, rfl, rfl, trivial⟩ ?_
  refine rw_end ?_
  refine cw_seq ?_
  refine cw_seq ?_
  refine cw_region ?_
  refine rw_op (ot_c0 rfl rfl rfl Try.call23 (fun w hw => verifyBegun_any w)) rfl rfl (fun _ _ => ?_)
  refine rw_run tab_ok 2 [(2, _), (3, _), (4, _), (14, _)] rfl ⟨rfl, rfl, rfl, rfl, trivial⟩ ?_
  refine rw_op (ot_c0 rfl rfl rfl Try.call15 (fun w hw => progBegun_any w)) rfl rfl (fun _ _ => ?_)
  refine rw_run tab_ok 2 [(2, _), (3, _), (4, _), (17, _)] rfl ⟨rfl, rfl, rfl, rfl, trivial⟩ ?_
  refine rw_end ?_
  refine cw_cond_f rfl ?_
  refine cw_skip (xw_then ?_)
  refine cw_cut (fun _ : Nat × Option Addr × Nat => True) (fun g => [(2, .int .i64 z), (3, .pointer (some ⟨g1, 0, none⟩)), (7, .pointer (some ⟨g.1, 0, none⟩))]) (fun g => [RBox g1 [.slice A fs.length c] 24, RBox g.1 [.slice g.2.1 q.length g.2.2] 24, ROw (.slice g.2.1 q.length g.2.2) q]) ?_ ?_
  · refine cw_draw (.still 1 (.still 2 (.still 4 (.pick 0 (.pick 3 (.pick 5 (.pick 6 (.still 7 (.pick 8 (.pick 9 .done .stop) .stop)) (.pick 8 (.pick 6 (.still 7 (.pick 9 .done .stop)) .stop) .stop)) (.pick 8 (.pick 5 (.pick 6 (.still 7 (.pick 9 .done .stop)) .stop) .stop) .stop)) (.pick 5 (.pick 3 (.pick 6 (.still 7 (.pick 8 (.pick 9 .done .stop) .stop)) (.pick 8 (.pick 6 (.still 7 (.pick 9 .done .stop)) .stop) .stop)) (.pick 8 (.pick 3 (.pick 6 (.still 7 (.pick 9 .done .stop)) .stop) .stop) .stop)) (.pick 8 (.pick 3 (.pick 5 (.pick 6 (.still 7 (.pick 9 .done .stop)) .stop) .stop) (.pick 5 (.pick 3 (.pick 6 (.still 7 (.pick 9 .done .stop)) .stop) .stop) .stop)) .stop))) (.pick 5 (.pick 0 (.pick 3 (.pick 6 (.still 7 (.pick 8 (.pick 9 .done .stop) .stop)) (.pick 8 (.pick 6 (.still 7 (.pick 9 .done .stop)) .stop) .stop)) (.pick 8 (.pick 3 (.pick 6 (.still 7 (.pick 9 .done .stop)) .stop) .stop) .stop)) (.pick 8 (.pick 0 (.pick 3 (.pick 6 (.still 7 (.pick 9 .done .stop)) .stop) .stop) .stop) .stop)) (.pick 8 (.pick 0 (.pick 3 (.pick 5 (.pick 6 (.still 7 (.pick 9 .done .stop)) .stop) .stop) (.pick 5 (.pick 3 (.pick 6 (.still 7 (.pick 9 .done .stop)) .stop) .stop) .stop)) (.pick 5 (.pick 0 (.pick 3 (.pick 6 (.still 7 (.pick 9 .done .stop)) .stop) .stop) .stop) .stop)) .stop)))))) [9] rfl (by kernel_rfl) (by kernel_rfl) ?_
    refine ro_run tab_ok ha 1 [(2, _), (3, _), (4, _), (19, _)] rfl ⟨rfl, rfl, rfl, rfl, trivial⟩ ?_
    refine ro_s2 rfl (qs_ldb fc Try.isAgg22 rfl rfl (by rfl)) rfl rfl ha ?_
    refine ro_s2 rfl (qs_ldbA (vs := [_, _, _, _]) fc Try.isAgg54 Try.sizeOf54 rfl rfl (by rfl) rfl) rfl rfl ha ?_
    refine ro_op2 rfl ((ot_bsl (cs := []) Try.underlying22 Try.sizeOf54 Try.zeroValue54 rfl rfl rfl rfl rfl).mem (H'' := fun g => ROw (.slice (some ⟨g, 0, none⟩) 0 0) ([] : List HFun) :: _) fun g w h => row_ow (α := HFun) (m := 0) [] rfl (by simp) rfl (by decide) h) rfl rfl (.inr fun _ => ha) (fun ge _ => ?_) ?_
    · refine ro_op2 rfl (ot_appS (α := HFun) (bytes := 64) (xs := []) (ys := hf) (List.nil_append hf).symm Try.underlying22 (info_ex Try.inFunc) rfl fc (.ro hfs) (by simp only [List.length_nil]; omega) (by simp only [List.length_nil]; omega) rfl rfl rfl) rfl rfl (.inr fun _ => ha) (fun ⟨A5, c5⟩ _ => ?_) ?_
      · try dsimp only
        refine ro_op2 rfl (ot_bsl (cs := [_, _, _, _]) Try.underlying22 Try.sizeOf54 Try.zeroValue54 rfl rfl rfl rfl rfl) rfl rfl (.inr fun _ => ha) (fun g3 _ => ?_) ?_
        · try dsimp only
          refine ro_op2 rfl (ot_app1 (α := HFun) (bytes := 64) ⟨m.params, .slice A1 m.locals.length c1, m.result, .slice A2 m.code.length c2⟩ [] rfl Try.underlying22 (info_ex Try.inFunc) rfl (perm2 fc fc) (hel_flat ⟨hi, rfl, rfl⟩) (by omega) (by omega) rfl rfl rfl) rfl rfl (.inr fun _ => ha) (fun ⟨A6, c6⟩ _ => ?_) ?_
          · try dsimp only
            refine ro_s2 rfl (qs_bst (cs := [_]) plT24 Try.zeroValue24 rfl rfl (by rfl)) rfl rfl ha ?_
            refine ro_op2 rfl (ot_alloc Try.zeroValue24 rfl rfl) rfl rfl (.inr fun _ => ha) (fun gx _ => ?_) ro_stop
            refine ro_op2 rfl (ot_stb _ fc Try.sizeOf24 rfl rfl rfl rfl rfl (by rfl) rfl (by rfl)) rfl rfl (.inl rfl) (fun _ _ => ?_) ro_stop
            rw [hq]
            refine ro_endx <| xw_join (gx, A6, c6) (trivial) ⟨rfl, rfl, rfl, trivial⟩ (fun _ h => h.msub ms)
          · refine ro_op2 rfl (ot_alloc Try.zeroValue24 rfl rfl) rfl rfl (.inr fun _ => ha) (fun gx _ => ?_) ro_stop
            refine ro_op2 rfl (ot_app1 (α := HFun) (bytes := 64) ⟨m.params, .slice A1 m.locals.length c1, m.result, .slice A2 m.code.length c2⟩ [] rfl Try.underlying22 (info_ex Try.inFunc) rfl (perm2 fc fc) (hel_flat ⟨hi, rfl, rfl⟩) (by omega) (by omega) rfl rfl rfl) rfl rfl (.inr fun _ => ha) (fun ⟨A6, c6⟩ _ => ?_) ro_stop
            try dsimp only
            refine ro_s2 rfl (qs_bst (cs := [_]) plT24 Try.zeroValue24 rfl rfl (by rfl)) rfl rfl ha ?_
            refine ro_op2 rfl (ot_stb _ fc Try.sizeOf24 rfl rfl rfl rfl rfl (by rfl) rfl (by rfl)) rfl rfl (.inl rfl) (fun _ _ => ?_) ro_stop
            rw [hq]
            refine ro_endx <| xw_join (gx, A6, c6) (trivial) ⟨rfl, rfl, rfl, trivial⟩ (fun _ h => h.msub ms)
        · refine ro_op2 rfl (ot_alloc Try.zeroValue24 rfl rfl) rfl rfl (.inr fun _ => ha) (fun gx _ => ?_) ro_stop
          refine ro_op2 rfl (ot_bsl (cs := [_, _, _, _]) Try.underlying22 Try.sizeOf54 Try.zeroValue54 rfl rfl rfl rfl rfl) rfl rfl (.inr fun _ => ha) (fun g4 _ => ?_) ro_stop
          refine ro_op2 rfl (ot_app1 (α := HFun) (bytes := 64) ⟨m.params, .slice A1 m.locals.length c1, m.result, .slice A2 m.code.length c2⟩ [] rfl Try.underlying22 (info_ex Try.inFunc) rfl (perm2 fc fc) (hel_flat ⟨hi, rfl, rfl⟩) (by omega) (by omega) rfl rfl rfl) rfl rfl (.inr fun _ => ha) (fun ⟨A6, c6⟩ _ => ?_) ro_stop
          try dsimp only
          refine ro_s2 rfl (qs_bst (cs := [_]) plT24 Try.zeroValue24 rfl rfl (by rfl)) rfl rfl ha ?_
          refine ro_op2 rfl (ot_stb _ fc Try.sizeOf24 rfl rfl rfl rfl rfl (by rfl) rfl (by rfl)) rfl rfl (.inl rfl) (fun _ _ => ?_) ro_stop
          rw [hq]
          refine ro_endx <| xw_join (gx, A6, c6) (trivial) ⟨rfl, rfl, rfl, trivial⟩ (fun _ h => h.msub ms)
      · refine ro_op2 rfl (ot_bsl (cs := [_, _, _, _]) Try.underlying22 Try.sizeOf54 Try.zeroValue54 rfl rfl rfl rfl rfl) rfl rfl (.inr fun _ => ha) (fun g5 _ => ?_) ?_
        · try dsimp only
          refine ro_op2 rfl (ot_appS (α := HFun) (bytes := 64) (xs := []) (ys := hf) (List.nil_append hf).symm Try.underlying22 (info_ex Try.inFunc) rfl fc (.ro hfs) (by simp only [List.length_nil]; omega) (by simp only [List.length_nil]; omega) rfl rfl rfl) rfl rfl (.inr fun _ => ha) (fun ⟨A5, c5⟩ _ => ?_) ?_
          · try dsimp only
            refine ro_op2 rfl (ot_app1 (α := HFun) (bytes := 64) ⟨m.params, .slice A1 m.locals.length c1, m.result, .slice A2 m.code.length c2⟩ [] rfl Try.underlying22 (info_ex Try.inFunc) rfl (perm2 fc fc) (hel_flat ⟨hi, rfl, rfl⟩) (by omega) (by omega) rfl rfl rfl) rfl rfl (.inr fun _ => ha) (fun ⟨A6, c6⟩ _ => ?_) ?_
            · try dsimp only
              refine ro_s2 rfl (qs_bst (cs := [_]) plT24 Try.zeroValue24 rfl rfl (by rfl)) rfl rfl ha ?_
              refine ro_op2 rfl (ot_alloc Try.zeroValue24 rfl rfl) rfl rfl (.inr fun _ => ha) (fun gx _ => ?_) ro_stop
              refine ro_op2 rfl (ot_stb _ fc Try.sizeOf24 rfl rfl rfl rfl rfl (by rfl) rfl (by rfl)) rfl rfl (.inl rfl) (fun _ _ => ?_) ro_stop
              rw [hq]
              refine ro_endx <| xw_join (gx, A6, c6) (trivial) ⟨rfl, rfl, rfl, trivial⟩ (fun _ h => h.msub ms)
            · refine ro_op2 rfl (ot_alloc Try.zeroValue24 rfl rfl) rfl rfl (.inr fun _ => ha) (fun gx _ => ?_) ro_stop
              refine ro_op2 rfl (ot_app1 (α := HFun) (bytes := 64) ⟨m.params, .slice A1 m.locals.length c1, m.result, .slice A2 m.code.length c2⟩ [] rfl Try.underlying22 (info_ex Try.inFunc) rfl (perm2 fc fc) (hel_flat ⟨hi, rfl, rfl⟩) (by omega) (by omega) rfl rfl rfl) rfl rfl (.inr fun _ => ha) (fun ⟨A6, c6⟩ _ => ?_) ro_stop
              try dsimp only
              refine ro_s2 rfl (qs_bst (cs := [_]) plT24 Try.zeroValue24 rfl rfl (by rfl)) rfl rfl ha ?_
              refine ro_op2 rfl (ot_stb _ fc Try.sizeOf24 rfl rfl rfl rfl rfl (by rfl) rfl (by rfl)) rfl rfl (.inl rfl) (fun _ _ => ?_) ro_stop
              rw [hq]
              refine ro_endx <| xw_join (gx, A6, c6) (trivial) ⟨rfl, rfl, rfl, trivial⟩ (fun _ h => h.msub ms)
          · refine ro_op2 rfl (ot_alloc Try.zeroValue24 rfl rfl) rfl rfl (.inr fun _ => ha) (fun gx _ => ?_) ro_stop
            refine ro_op2 rfl (ot_appS (α := HFun) (bytes := 64) (xs := []) (ys := hf) (List.nil_append hf).symm Try.underlying22 (info_ex Try.inFunc) rfl fc (.ro hfs) (by simp only [List.length_nil]; omega) (by simp only [List.length_nil]; omega) rfl rfl rfl) rfl rfl (.inr fun _ => ha) (fun ⟨A5, c5⟩ _ => ?_) ro_stop
            try dsimp only
            refine ro_op2 rfl (ot_app1 (α := HFun) (bytes := 64) ⟨m.params, .slice A1 m.locals.length c1, m.result, .slice A2 m.code.length c2⟩ [] rfl Try.underlying22 (info_ex Try.inFunc) rfl (perm2 fc fc) (hel_flat ⟨hi, rfl, rfl⟩) (by omega) (by omega) rfl rfl rfl) rfl rfl (.inr fun _ => ha) (fun ⟨A6, c6⟩ _ => ?_) ro_stop
            try dsimp only
            refine ro_s2 rfl (qs_bst (cs := [_]) plT24 Try.zeroValue24 rfl rfl (by rfl)) rfl rfl ha ?_
            refine ro_op2 rfl (ot_stb _ fc Try.sizeOf24 rfl rfl rfl rfl rfl (by rfl) rfl (by rfl)) rfl rfl (.inl rfl) (fun _ _ => ?_) ro_stop
            rw [hq]
            refine ro_endx <| xw_join (gx, A6, c6) (trivial) ⟨rfl, rfl, rfl, trivial⟩ (fun _ h => h.msub ms)
        · refine ro_op2 rfl (ot_alloc Try.zeroValue24 rfl rfl) rfl rfl (.inr fun _ => ha) (fun gx _ => ?_) ro_stop
          refine ro_op2 rfl (ot_appS (α := HFun) (bytes := 64) (xs := []) (ys := hf) (List.nil_append hf).symm Try.underlying22 (info_ex Try.inFunc) rfl fc (.ro hfs) (by simp only [List.length_nil]; omega) (by simp only [List.length_nil]; omega) rfl rfl rfl) rfl rfl (.inr fun _ => ha) (fun ⟨A5, c5⟩ _ => ?_) ?_
          · try dsimp only
            refine ro_op2 rfl (ot_bsl (cs := [_, _, _, _]) Try.underlying22 Try.sizeOf54 Try.zeroValue54 rfl rfl rfl rfl rfl) rfl rfl (.inr fun _ => ha) (fun g6 _ => ?_) ro_stop
            refine ro_op2 rfl (ot_app1 (α := HFun) (bytes := 64) ⟨m.params, .slice A1 m.locals.length c1, m.result, .slice A2 m.code.length c2⟩ [] rfl Try.underlying22 (info_ex Try.inFunc) rfl (perm2 fc fc) (hel_flat ⟨hi, rfl, rfl⟩) (by omega) (by omega) rfl rfl rfl) rfl rfl (.inr fun _ => ha) (fun ⟨A6, c6⟩ _ => ?_) ro_stop
            try dsimp only
            refine ro_s2 rfl (qs_bst (cs := [_]) plT24 Try.zeroValue24 rfl rfl (by rfl)) rfl rfl ha ?_
            refine ro_op2 rfl (ot_stb _ fc Try.sizeOf24 rfl rfl rfl rfl rfl (by rfl) rfl (by rfl)) rfl rfl (.inl rfl) (fun _ _ => ?_) ro_stop
            rw [hq]
            refine ro_endx <| xw_join (gx, A6, c6) (trivial) ⟨rfl, rfl, rfl, trivial⟩ (fun _ h => h.msub ms)
          · refine ro_op2 rfl (ot_bsl (cs := [_, _, _, _]) Try.underlying22 Try.sizeOf54 Try.zeroValue54 rfl rfl rfl rfl rfl) rfl rfl (.inr fun _ => ha) (fun g7 _ => ?_) ro_stop
            refine ro_op2 rfl (ot_appS (α := HFun) (bytes := 64) (xs := []) (ys := hf) (List.nil_append hf).symm Try.underlying22 (info_ex Try.inFunc) rfl fc (.ro hfs) (by simp only [List.length_nil]; omega) (by simp only [List.length_nil]; omega) rfl rfl rfl) rfl rfl (.inr fun _ => ha) (fun ⟨A5, c5⟩ _ => ?_) ro_stop
            try dsimp only
            refine ro_op2 rfl (ot_app1 (α := HFun) (bytes := 64) ⟨m.params, .slice A1 m.locals.length c1, m.result, .slice A2 m.code.length c2⟩ [] rfl Try.underlying22 (info_ex Try.inFunc) rfl (perm2 fc fc) (hel_flat ⟨hi, rfl, rfl⟩) (by omega) (by omega) rfl rfl rfl) rfl rfl (.inr fun _ => ha) (fun ⟨A6, c6⟩ _ => ?_) ro_stop
            try dsimp only
            refine ro_s2 rfl (qs_bst (cs := [_]) plT24 Try.zeroValue24 rfl rfl (by rfl)) rfl rfl ha ?_
            refine ro_op2 rfl (ot_stb _ fc Try.sizeOf24 rfl rfl rfl rfl rfl (by rfl) rfl (by rfl)) rfl rfl (.inl rfl) (fun _ _ => ?_) ro_stop
            rw [hq]
            refine ro_endx <| xw_join (gx, A6, c6) (trivial) ⟨rfl, rfl, rfl, trivial⟩ (fun _ h => h.msub ms)
    · refine ro_op2 rfl (ot_bsl (cs := [_, _, _, _]) Try.underlying22 Try.sizeOf54 Try.zeroValue54 rfl rfl rfl rfl rfl) rfl rfl (.inr fun _ => ha) (fun g8 _ => ?_) ?_
      · try dsimp only
        refine ro_op2 rfl ((ot_bsl (cs := []) Try.underlying22 Try.sizeOf54 Try.zeroValue54 rfl rfl rfl rfl rfl).mem (H'' := fun g => ROw (.slice (some ⟨g, 0, none⟩) 0 0) ([] : List HFun) :: _) fun g w h => row_ow (α := HFun) (m := 0) [] rfl (by simp) rfl (by decide) h) rfl rfl (.inr fun _ => ha) (fun ge _ => ?_) ?_
        · refine ro_op2 rfl (ot_appS (α := HFun) (bytes := 64) (xs := []) (ys := hf) (List.nil_append hf).symm Try.underlying22 (info_ex Try.inFunc) rfl fc (.ro hfs) (by simp only [List.length_nil]; omega) (by simp only [List.length_nil]; omega) rfl rfl rfl) rfl rfl (.inr fun _ => ha) (fun ⟨A5, c5⟩ _ => ?_) ?_
          · try dsimp only
            refine ro_op2 rfl (ot_app1 (α := HFun) (bytes := 64) ⟨m.params, .slice A1 m.locals.length c1, m.result, .slice A2 m.code.length c2⟩ [] rfl Try.underlying22 (info_ex Try.inFunc) rfl (perm2 fc fc) (hel_flat ⟨hi, rfl, rfl⟩) (by omega) (by omega) rfl rfl rfl) rfl rfl (.inr fun _ => ha) (fun ⟨A6, c6⟩ _ => ?_) ?_
            · try dsimp only
              refine ro_s2 rfl (qs_bst (cs := [_]) plT24 Try.zeroValue24 rfl rfl (by rfl)) rfl rfl ha ?_
              refine ro_op2 rfl (ot_alloc Try.zeroValue24 rfl rfl) rfl rfl (.inr fun _ => ha) (fun gx _ => ?_) ro_stop
              refine ro_op2 rfl (ot_stb _ fc Try.sizeOf24 rfl rfl rfl rfl rfl (by rfl) rfl (by rfl)) rfl rfl (.inl rfl) (fun _ _ => ?_) ro_stop
              rw [hq]
              refine ro_endx <| xw_join (gx, A6, c6) (trivial) ⟨rfl, rfl, rfl, trivial⟩ (fun _ h => h.msub ms)
            · refine ro_op2 rfl (ot_alloc Try.zeroValue24 rfl rfl) rfl rfl (.inr fun _ => ha) (fun gx _ => ?_) ro_stop
              refine ro_op2 rfl (ot_app1 (α := HFun) (bytes := 64) ⟨m.params, .slice A1 m.locals.length c1, m.result, .slice A2 m.code.length c2⟩ [] rfl Try.underlying22 (info_ex Try.inFunc) rfl (perm2 fc fc) (hel_flat ⟨hi, rfl, rfl⟩) (by omega) (by omega) rfl rfl rfl) rfl rfl (.inr fun _ => ha) (fun ⟨A6, c6⟩ _ => ?_) ro_stop
              try dsimp only
              refine ro_s2 rfl (qs_bst (cs := [_]) plT24 Try.zeroValue24 rfl rfl (by rfl)) rfl rfl ha ?_
              refine ro_op2 rfl (ot_stb _ fc Try.sizeOf24 rfl rfl rfl rfl rfl (by rfl) rfl (by rfl)) rfl rfl (.inl rfl) (fun _ _ => ?_) ro_stop
              rw [hq]
              refine ro_endx <| xw_join (gx, A6, c6) (trivial) ⟨rfl, rfl, rfl, trivial⟩ (fun _ h => h.msub ms)
          · refine ro_op2 rfl (ot_alloc Try.zeroValue24 rfl rfl) rfl rfl (.inr fun _ => ha) (fun gx _ => ?_) ro_stop
            refine ro_op2 rfl (ot_appS (α := HFun) (bytes := 64) (xs := []) (ys := hf) (List.nil_append hf).symm Try.underlying22 (info_ex Try.inFunc) rfl fc (.ro hfs) (by simp only [List.length_nil]; omega) (by simp only [List.length_nil]; omega) rfl rfl rfl) rfl rfl (.inr fun _ => ha) (fun ⟨A5, c5⟩ _ => ?_) ro_stop
            try dsimp only
            refine ro_op2 rfl (ot_app1 (α := HFun) (bytes := 64) ⟨m.params, .slice A1 m.locals.length c1, m.result, .slice A2 m.code.length c2⟩ [] rfl Try.underlying22 (info_ex Try.inFunc) rfl (perm2 fc fc) (hel_flat ⟨hi, rfl, rfl⟩) (by omega) (by omega) rfl rfl rfl) rfl rfl (.inr fun _ => ha) (fun ⟨A6, c6⟩ _ => ?_) ro_stop
            try dsimp only
            refine ro_s2 rfl (qs_bst (cs := [_]) plT24 Try.zeroValue24 rfl rfl (by rfl)) rfl rfl ha ?_
            refine ro_op2 rfl (ot_stb _ fc Try.sizeOf24 rfl rfl rfl rfl rfl (by rfl) rfl (by rfl)) rfl rfl (.inl rfl) (fun _ _ => ?_) ro_stop
            rw [hq]
            refine ro_endx <| xw_join (gx, A6, c6) (trivial) ⟨rfl, rfl, rfl, trivial⟩ (fun _ h => h.msub ms)
        · refine ro_op2 rfl (ot_alloc Try.zeroValue24 rfl rfl) rfl rfl (.inr fun _ => ha) (fun gx _ => ?_) ro_stop
          refine ro_op2 rfl ((ot_bsl (cs := []) Try.underlying22 Try.sizeOf54 Try.zeroValue54 rfl rfl rfl rfl rfl).mem (H'' := fun g => ROw (.slice (some ⟨g, 0, none⟩) 0 0) ([] : List HFun) :: _) fun g w h => row_ow (α := HFun) (m := 0) [] rfl (by simp) rfl (by decide) h) rfl rfl (.inr fun _ => ha) (fun ge _ => ?_) ro_stop
          refine ro_op2 rfl (ot_appS (α := HFun) (bytes := 64) (xs := []) (ys := hf) (List.nil_append hf).symm Try.underlying22 (info_ex Try.inFunc) rfl fc (.ro hfs) (by simp only [List.length_nil]; omega) (by simp only [List.length_nil]; omega) rfl rfl rfl) rfl rfl (.inr fun _ => ha) (fun ⟨A5, c5⟩ _ => ?_) ro_stop
          try dsimp only
          refine ro_op2 rfl (ot_app1 (α := HFun) (bytes := 64) ⟨m.params, .slice A1 m.locals.length c1, m.result, .slice A2 m.code.length c2⟩ [] rfl Try.underlying22 (info_ex Try.inFunc) rfl (perm2 fc fc) (hel_flat ⟨hi, rfl, rfl⟩) (by omega) (by omega) rfl rfl rfl) rfl rfl (.inr fun _ => ha) (fun ⟨A6, c6⟩ _ => ?_) ro_stop
          try dsimp only
          refine ro_s2 rfl (qs_bst (cs := [_]) plT24 Try.zeroValue24 rfl rfl (by rfl)) rfl rfl ha ?_
          refine ro_op2 rfl (ot_stb _ fc Try.sizeOf24 rfl rfl rfl rfl rfl (by rfl) rfl (by rfl)) rfl rfl (.inl rfl) (fun _ _ => ?_) ro_stop
          rw [hq]
          refine ro_endx <| xw_join (gx, A6, c6) (trivial) ⟨rfl, rfl, rfl, trivial⟩ (fun _ h => h.msub ms)
      · refine ro_op2 rfl (ot_alloc Try.zeroValue24 rfl rfl) rfl rfl (.inr fun _ => ha) (fun gx _ => ?_) ro_stop
        refine ro_op2 rfl ((ot_bsl (cs := []) Try.underlying22 Try.sizeOf54 Try.zeroValue54 rfl rfl rfl rfl rfl).mem (H'' := fun g => ROw (.slice (some ⟨g, 0, none⟩) 0 0) ([] : List HFun) :: _) fun g w h => row_ow (α := HFun) (m := 0) [] rfl (by simp) rfl (by decide) h) rfl rfl (.inr fun _ => ha) (fun ge _ => ?_) ?_
        · refine ro_op2 rfl (ot_appS (α := HFun) (bytes := 64) (xs := []) (ys := hf) (List.nil_append hf).symm Try.underlying22 (info_ex Try.inFunc) rfl fc (.ro hfs) (by simp only [List.length_nil]; omega) (by simp only [List.length_nil]; omega) rfl rfl rfl) rfl rfl (.inr fun _ => ha) (fun ⟨A5, c5⟩ _ => ?_) ?_
          · try dsimp only
            refine ro_op2 rfl (ot_bsl (cs := [_, _, _, _]) Try.underlying22 Try.sizeOf54 Try.zeroValue54 rfl rfl rfl rfl rfl) rfl rfl (.inr fun _ => ha) (fun g9 _ => ?_) ro_stop
            refine ro_op2 rfl (ot_app1 (α := HFun) (bytes := 64) ⟨m.params, .slice A1 m.locals.length c1, m.result, .slice A2 m.code.length c2⟩ [] rfl Try.underlying22 (info_ex Try.inFunc) rfl (perm2 fc fc) (hel_flat ⟨hi, rfl, rfl⟩) (by omega) (by omega) rfl rfl rfl) rfl rfl (.inr fun _ => ha) (fun ⟨A6, c6⟩ _ => ?_) ro_stop
            try dsimp only
            refine ro_s2 rfl (qs_bst (cs := [_]) plT24 Try.zeroValue24 rfl rfl (by rfl)) rfl rfl ha ?_
            refine ro_op2 rfl (ot_stb _ fc Try.sizeOf24 rfl rfl rfl rfl rfl (by rfl) rfl (by rfl)) rfl rfl (.inl rfl) (fun _ _ => ?_) ro_stop
            rw [hq]
            refine ro_endx <| xw_join (gx, A6, c6) (trivial) ⟨rfl, rfl, rfl, trivial⟩ (fun _ h => h.msub ms)
          · refine ro_op2 rfl (ot_bsl (cs := [_, _, _, _]) Try.underlying22 Try.sizeOf54 Try.zeroValue54 rfl rfl rfl rfl rfl) rfl rfl (.inr fun _ => ha) (fun g10 _ => ?_) ro_stop
            refine ro_op2 rfl (ot_appS (α := HFun) (bytes := 64) (xs := []) (ys := hf) (List.nil_append hf).symm Try.underlying22 (info_ex Try.inFunc) rfl fc (.ro hfs) (by simp only [List.length_nil]; omega) (by simp only [List.length_nil]; omega) rfl rfl rfl) rfl rfl (.inr fun _ => ha) (fun ⟨A5, c5⟩ _ => ?_) ro_stop
            try dsimp only
            refine ro_op2 rfl (ot_app1 (α := HFun) (bytes := 64) ⟨m.params, .slice A1 m.locals.length c1, m.result, .slice A2 m.code.length c2⟩ [] rfl Try.underlying22 (info_ex Try.inFunc) rfl (perm2 fc fc) (hel_flat ⟨hi, rfl, rfl⟩) (by omega) (by omega) rfl rfl rfl) rfl rfl (.inr fun _ => ha) (fun ⟨A6, c6⟩ _ => ?_) ro_stop
            try dsimp only
            refine ro_s2 rfl (qs_bst (cs := [_]) plT24 Try.zeroValue24 rfl rfl (by rfl)) rfl rfl ha ?_
            refine ro_op2 rfl (ot_stb _ fc Try.sizeOf24 rfl rfl rfl rfl rfl (by rfl) rfl (by rfl)) rfl rfl (.inl rfl) (fun _ _ => ?_) ro_stop
            rw [hq]
            refine ro_endx <| xw_join (gx, A6, c6) (trivial) ⟨rfl, rfl, rfl, trivial⟩ (fun _ h => h.msub ms)
        · refine ro_op2 rfl (ot_bsl (cs := [_, _, _, _]) Try.underlying22 Try.sizeOf54 Try.zeroValue54 rfl rfl rfl rfl rfl) rfl rfl (.inr fun _ => ha) (fun g11 _ => ?_) ro_stop
          refine ro_op2 rfl ((ot_bsl (cs := []) Try.underlying22 Try.sizeOf54 Try.zeroValue54 rfl rfl rfl rfl rfl).mem (H'' := fun g => ROw (.slice (some ⟨g, 0, none⟩) 0 0) ([] : List HFun) :: _) fun g w h => row_ow (α := HFun) (m := 0) [] rfl (by simp) rfl (by decide) h) rfl rfl (.inr fun _ => ha) (fun ge _ => ?_) ro_stop
          refine ro_op2 rfl (ot_appS (α := HFun) (bytes := 64) (xs := []) (ys := hf) (List.nil_append hf).symm Try.underlying22 (info_ex Try.inFunc) rfl fc (.ro hfs) (by simp only [List.length_nil]; omega) (by simp only [List.length_nil]; omega) rfl rfl rfl) rfl rfl (.inr fun _ => ha) (fun ⟨A5, c5⟩ _ => ?_) ro_stop
          try dsimp only
          refine ro_op2 rfl (ot_app1 (α := HFun) (bytes := 64) ⟨m.params, .slice A1 m.locals.length c1, m.result, .slice A2 m.code.length c2⟩ [] rfl Try.underlying22 (info_ex Try.inFunc) rfl (perm2 fc fc) (hel_flat ⟨hi, rfl, rfl⟩) (by omega) (by omega) rfl rfl rfl) rfl rfl (.inr fun _ => ha) (fun ⟨A6, c6⟩ _ => ?_) ro_stop
          try dsimp only
          refine ro_s2 rfl (qs_bst (cs := [_]) plT24 Try.zeroValue24 rfl rfl (by rfl)) rfl rfl ha ?_
          refine ro_op2 rfl (ot_stb _ fc Try.sizeOf24 rfl rfl rfl rfl rfl (by rfl) rfl (by rfl)) rfl rfl (.inl rfl) (fun _ _ => ?_) ro_stop
          rw [hq]
          refine ro_endx <| xw_join (gx, A6, c6) (trivial) ⟨rfl, rfl, rfl, trivial⟩ (fun _ h => h.msub ms)
  · rintro ⟨gx, A6, c6⟩ _
    try dsimp only
    refine cw_mem (fun w' h => rb_of (Hel := [ROw (.slice A6 q.length c6) q]) (read_hfun hql hqr) (h.msub (T := [ROw (.slice A6 q.length c6) q, RBox g1 [.slice A fs.length c] 24, RBox gx [.slice A6 q.length c6] 24]) ms)) ?_
    rw [hql]
    refine cw_seq ?_
    refine cw_seq ?_
    refine cw_region ?_
    refine rw_s (qs_ldbA (vs := [_]) fc Try.isAgg24 Try.sizeOf24 rfl rfl (by rfl) rfl) rfl rfl ?_
    refine rw_op (ot_c0 rfl rfl rfl Try.call16 (fun w hw => pcheck_any A c fs w (hw.ro hs))) rfl rfl (fun _ _ => ?_)
    refine rw_run tab_ok 2 [(2, _), (3, _), (7, _), (29, _)] rfl ⟨rfl, rfl, rfl, rfl, trivial⟩ ?_
    refine rw_split (t := 29) rfl (fun k1 => ?_) (fun k1 => ?_)
    · refine rw_run tab_ok 15 [(2, _), (3, _), (7, _), (44, _)] rfl ⟨rfl, rfl, rfl, rfl, trivial⟩ ?_
      refine rw_end ?_
      refine cw_cond_t rfl ?_
      refine cw_seq ?_
      refine cw_region ?_
      refine rw_run tab_ok 1 [(6, _)] rfl ⟨rfl, trivial⟩ ?_
      refine rw_end ?_
      refine cw_ret (xw_thenr ?_)
      refine xw_ret1 Try.results8 (rv_tmp rfl) ?_
      intro w hw
      exact ⟨rfl, hw.below⟩
    · have k1 : checkP fs = 0 := by simpa using k1
      refine rw_s (qs_ldbA (vs := [_]) fc Try.isAgg24 Try.sizeOf24 rfl rfl (by rfl) rfl) rfl rfl ?_
      refine rw_op (ot_c0 rfl rfl rfl Try.call16 (fun w hw => pcheck_any A6 c6 (fs ++ [m]) w (SF.at_ (SF.rb rfl fc) hw))) rfl rfl (fun _ _ => ?_)
      refine rw_run tab_ok 3 [(2, _), (3, _), (7, _), (34, _)] rfl ⟨rfl, rfl, rfl, rfl, trivial⟩ ?_
      refine rw_split (t := 34) rfl (fun k2 => ?_) (fun k2 => ?_)
      · refine rw_run tab_ok 10 [(2, _), (3, _), (7, _), (44, _)] rfl ⟨rfl, rfl, rfl, rfl, trivial⟩ ?_
        refine rw_end ?_
        refine cw_cond_t rfl ?_
        refine cw_seq ?_
        refine cw_region ?_
        refine rw_run tab_ok 1 [(6, _)] rfl ⟨rfl, trivial⟩ ?_
        refine rw_end ?_
        refine cw_ret (xw_thenr ?_)
        refine xw_ret1 Try.results8 (rv_tmp rfl) ?_
        intro w hw
        exact ⟨rfl, hw.below⟩
      · have k2 : checkP (fs ++ [m]) = 0 := by simpa using k2
        refine rw_run tab_ok 4 [(2, _), (3, _), (7, _), (38, _)] rfl ⟨rfl, rfl, rfl, rfl, trivial⟩ ?_
        refine rw_split (t := 38) rfl (fun k3 => ?_) (fun k3 => ?_)
        · refine rw_run tab_ok 6 [(2, _), (3, _), (7, _), (44, _)] rfl ⟨rfl, rfl, rfl, rfl, trivial⟩ ?_
          refine rw_end ?_
          refine cw_cond_t rfl ?_
          refine cw_seq ?_
          refine cw_region ?_
          refine rw_run tab_ok 1 [(6, _)] rfl ⟨rfl, trivial⟩ ?_
          refine rw_end ?_
          refine cw_ret (xw_thenr ?_)
          refine xw_ret1 Try.results8 (rv_tmp rfl) ?_
          intro w hw
          exact ⟨rfl, hw.below⟩
        · have k3 := of_decide_eq_false k3
          refine rw_run tab_ok 2 [(2, _), (3, _), (7, _), (38, _), (39, _), (40, _)] rfl ⟨rfl, rfl, rfl, rfl, rfl, rfl, trivial⟩ ?_
          refine rw_s (qs_ldb fc Try.isAgg22 rfl rfl (by rfl)) rfl rfl ?_
          refine rw_s (qs_len Try.underlying22 rfl rfl) rfl rfl ?_
          refine rw_run tab_ok 2 [(2, _), (3, _), (7, _), (44, _)] rfl ⟨rfl, rfl, rfl, rfl, trivial⟩ ?_
          refine rw_end ?_
          refine cw_condD rfl (fun k4 => ?_) (fun k4 => ?_)
          · refine cw_seq ?_
            refine cw_region ?_
            refine rw_run tab_ok 1 [(6, _)] rfl ⟨rfl, trivial⟩ ?_
            refine rw_end ?_
            refine cw_ret (xw_thenr ?_)
            refine xw_ret1 Try.results8 (rv_tmp rfl) ?_
            intro w hw
            exact ⟨rfl, hw.below⟩
          · obtain ⟨k, rfl⟩ : ∃ k : Nat, z = (k : Int) := ⟨z.toNat, by omega⟩
            have hsame := more_same (m := m) k1 k2 (k := k) (by omega)
            have hvf : ∀ w1, Sl w1 (.slice A6 (fs ++ [m]).length c6) (fs ++ [m]) → Calls Try.prog 18 #[.agg #[.slice A6 (fs ++ [m]).length c6], .int .i64 (k : Int)] w1 fun e w' => ∃ g : Option Addr × Nat, True ∧ e = .returned (.tuple #[.slice g.1 (funcS fs k).1.length g.2, .int .i64 (funcS fs k).2]) ∧ Cw w1.heap.size w1 [RRd (.slice g.1 (funcS fs k).1.length g.2) (funcS fs k).1] w' := fun w1 h => by
              have := vfunc_any A6 c6 (fs ++ [m]) k w1 h
              rw [hsame] at this
              exact this
            refine cw_skip (xw_then ?_)
            refine cw_seq ?_
            refine cw_region ?_
            refine rw_s (qs_ldbA (vs := [_]) fc Try.isAgg24 Try.sizeOf24 rfl rfl (by rfl) rfl) rfl rfl ?_
            refine rw_run tab_ok 1 [(2, _), (7, _), (46, _), (47, _)] rfl ⟨rfl, rfl, rfl, rfl, trivial⟩ ?_
            refine rw_op (ot_c rfl rfl rfl Try.call18 (fun w hw => vfunc_any A c fs k w (hw.ro hs))) rfl rfl (fun ⟨A7, c7⟩ _ => ?_)
            try dsimp only
            refine rw_run tab_ok 5 [(2, _), (7, _), (8, _), (9, _)] rfl ⟨rfl, rfl, rfl, rfl, trivial⟩ ?_
            refine rw_end ?_
            refine cw_seq ?_
            refine cw_region ?_
            refine rw_s (qs_ldbA (vs := [_]) fc Try.isAgg24 Try.sizeOf24 rfl rfl (by rfl) rfl) rfl rfl ?_
            refine rw_run tab_ok 1 [(8, _), (9, _), (52, _), (53, _)] rfl ⟨rfl, rfl, rfl, rfl, trivial⟩ ?_
            refine rw_op (ot_c rfl rfl rfl Try.call18 (fun w hw => hvf w (SF.at_ (SF.rb rfl fc) hw))) rfl rfl (fun ⟨A8, c8⟩ _ => ?_)
            try dsimp only
            refine rw_run tab_ok 5 [(8, _), (9, _), (10, _), (11, _)] rfl ⟨rfl, rfl, rfl, rfl, trivial⟩ ?_
            refine rw_end ?_
            refine cw_seq ?_
            refine cw_region ?_
            refine rw_run tab_ok 4 [(8, _), (10, _), (60, _)] rfl ⟨rfl, rfl, rfl, trivial⟩ ?_
            refine rw_as (t := 60) (v' := .bool true) rfl (by rw [decide_eq_true rfl]) ?_
            refine rw_run tab_ok 2 [(60, _), (61, _), (62, _)] rfl ⟨rfl, rfl, rfl, trivial⟩ ?_
            refine rw_op (ot_c0 rfl rfl rfl Try.call24 (fun w hw => rsameE_any A7 A8 c7 c8 (funcS fs k).1 (funcS fs k).1 w (hw.rdSl fc) (hw.rdSl fc))) rfl rfl (fun _ _ => ?_)
            refine rw_run tab_ok 2 [(6, _)] rfl ⟨rfl, trivial⟩ ?_
            refine rw_end ?_
            refine cw_ret ?_
            refine xw_ret1 Try.results8 (rv_tmp rfl) ?_
            intro w hw
            exact ⟨ret_bool (by simp), hw.below⟩
theorem verifyMore_law (v v1 v2 : Value) (fs : List MFunc) (m : MFunc) (z : Int) (w : World) (hs : Sl w v fs) (hl : fs.length * 64 ≤ 140737488351232) (hi : I64 m.params ∧ I64 m.result) (h1 : Sl w v1 m.locals) (h2 : Sl w v2 m.code) :
    Calls Try.prog 8 #[.agg #[v], .agg #[.int .i64 m.params, v1, .int .i64 m.result, v2], .int .i64 z] w fun e w' => e = .returned (.bool true) ∧ Below w.heap.size w w' := by
  obtain ⟨A, c, rfl, _⟩ := hs.form
  obtain ⟨A1, c1, rfl, _⟩ := h1.form
  obtain ⟨A2, c2, rfl, _⟩ := h2.form
  exact verifyMore_any A A1 A2 c c1 c2 fs m z w hs h1 h2 hi hl
end Go.Proofs.Ytejpkcheimgdfaa

-- V23a
/- A copy of a program, of one's own; programs opened. -/
namespace Go.Proofs.Ytejpkcheimgdfaa
open Go.RowKit

instance : Opn MFunc HFun where
  parts h f := [ROw h.v1 f.locals, ROw h.v2 f.code]
  ok h f := h.p = f.params ∧ h.r = f.result
  kk := rfl
  tt := rfl
  opn {w F cs f} h := by
    obtain ⟨v1, v2, F1, F2, hcs, hi, h1, h2, hd, hF⟩ := h
    obtain ⟨A1, c1, e1, _⟩ := h1.sl.form
    obtain ⟨A2, c2, e2, _⟩ := h2.sl.form
    refine ⟨⟨f.params, v1, f.result, v2⟩, ⟨hcs, hi, by rw [e1]; rfl, by rw [e2]; rfl⟩, ⟨rfl, rfl⟩, F1, F2, h1, ⟨F2, fun _ => False, h2, fun _ h => h, fun _ _ h => h, fun b => by simp⟩, hd, hF⟩
  cls {w F h f} hwf hok hH := by
    obtain ⟨F1, F2, h1, ⟨F3, F4, h3, h4, h5, h6⟩, hd, hF⟩ := hH
    have e : ∀ b, F2 b ↔ F3 b := fun b => by rw [h6 b]; simp [show ¬ F4 b from h4 b]
    refine ⟨h.v1, h.v2, F1, F3, ?_, ?_, h1, h3, fun b hb hb' => hd b hb ((e b).2 hb'), fun b => by rw [hF b, e b]⟩
    · show [.int .i64 h.p, h.v1, .int .i64 h.r, h.v2] = _
      rw [hok.1, hok.2]
    · rw [← hok.1, ← hok.2]; exact hwf.1
/-- All lists of it lie within reach. -/
def FitP (fs : List MFunc) : Prop := fs.length * 64 ≤ 140737488355328 ∧ ∀ f ∈ fs, f.locals.length * 8 ≤ 140737488355328 ∧ f.code.length * 16 ≤ 140737488355328
theorem take_fn {fs : List MFunc} {k : Nat} (hk : k < fs.length) : fs.take (k + 1) = fs.take k ++ [fnAt fs k] := by
  rw [List.take_add_one, List.getElem?_eq_getElem hk]
  unfold fnAt
  rw [List.getD_eq_getElem?_getD, List.getElem?_eq_getElem hk]
  rfl
theorem Try.inOpV : (Try.prog.info? 61).map (fun i => (i.zero, i.size, i.bytes)) = some (some (.agg #[.int .i64 0, .int .i64 0]), 2, 16) := by kernel_rfl
set_option maxRecDepth 100000 in
set_option maxHeartbeats 4000000 in
theorem copied_any (A : Option Addr) (c : Nat) (fs : List MFunc) (w : World) (hs : Sl w (.slice A fs.length c) fs) (hfit : FitP fs) :
    Calls Try.prog 34 #[.agg #[.slice A fs.length c]] w fun e w' => ∃ g : Option Addr × Nat, True ∧ e = .returned (.agg #[.slice g.1 fs.length g.2]) ∧ Cw w.heap.size w [ROw (.slice g.1 fs.length g.2) fs] w' := by
  have b1 := len_bd hs
  have hf64 := hfit.1
  refine enter Try.func34 rfl Try.ntmps34 rfl ?_
  refine cw_seq ?_
  refine cw_region ?_
  refine rw_op (ot_box rfl rfl rfl) rfl rfl (fun g1 _ => ?_)
  refine rw_op (ot_alloc Try.zeroValue24 rfl rfl) rfl rfl (fun g2 _ => ?_)
  refine rw_end ?_
  refine cw_seq ?_
  refine cw_region ?_
  refine rw_op (ot_alloc Try.zeroValue24 rfl rfl) rfl rfl (fun g3 _ => ?_)
  refine rw_end ?_
  refine cw_seq ?_
  refine cw_seq ?_
  refine cw_region ?_
  refine rw_run tab_ok 1 [(1, _), (2, _), (3, _), (4, _)] rfl ⟨rfl, rfl, rfl, rfl, trivial⟩ ?_
  refine rw_end ?_
  refine cw_mem (fun w h => Cw.nilO MFunc h) ?_
  refine cw_block (cw_loop (fun g : Nat × Option Addr × Nat => g.1 ≤ fs.length) (fun g => fs.length - g.1) (fun g => [(1, .pointer (some ⟨g1, 0, none⟩)), (2, .pointer (some ⟨g2, 0, none⟩)), (3, .pointer (some ⟨g3, 0, none⟩)), (4, .int .i64 (g.1 : Int))]) (fun g => [ROw (.slice g.2.1 (fs.take g.1).length g.2.2) (fs.take g.1), RBox g1 [.slice A fs.length c] 24, RBox g2 [.slice none 0 0] 24, RBox g3 [.slice g.2.1 (fs.take g.1).length g.2.2] 24]) (0, none, 0) (Nat.zero_le _) ⟨rfl, rfl, rfl, rfl, trivial⟩ me ?_)
  rintro ⟨k, A', c'⟩ hk
  try dsimp only
  have hk : k ≤ fs.length := hk
  have htl : (fs.take k).length = k := by rw [List.length_take]; omega
  refine cw_seq ?_
  refine cw_seq ?_
  refine cw_region ?_
  refine rw_run tab_ok 2 [(1, _), (2, _), (3, _), (4, _), (6, _), (7, _)] rfl ⟨rfl, rfl, rfl, rfl, rfl, rfl, trivial⟩ ?_
  refine rw_s (qs_ldb fc Try.isAgg22 rfl rfl (by rfl)) rfl rfl ?_
  refine rw_s (qs_len Try.underlying22 rfl rfl) rfl rfl ?_
  refine rw_run tab_ok 1 [(1, _), (2, _), (3, _), (4, _), (10, _)] rfl ⟨rfl, rfl, rfl, rfl, rfl, trivial⟩ ?_
  refine rw_end ?_
  refine cw_condD rfl (fun hlt => ?_) (fun hlt => ?_)
  · have hkl : k < fs.length := by omega
    obtain ⟨A1, c1, A2, c2, hl, hc, hi, hcell⟩ := hs.fn hkl
    obtain ⟨hb1, hb2⟩ := hfit.2 (fnAt fs k) (fnAt_mem hkl)
    have htk := take_fn hkl
    refine cw_skip (xw_then ?_)
    refine cw_seq ?_
    refine cw_block ?_
    refine cw_seq ?_
    refine cw_region ?_
    refine rw_run tab_ok 1 [(1, _), (2, _), (3, _), (4, _), (13, _)] rfl ⟨rfl, rfl, rfl, rfl, rfl, trivial⟩ ?_
    refine rw_s (qs_ldb fc Try.isAgg22 rfl rfl (by rfl)) rfl rfl ?_
    refine rw_run tab_ok 1 [(1, _), (2, _), (3, _), (4, _), (14, _), (15, _)] rfl ⟨rfl, rfl, rfl, rfl, rfl, rfl, trivial⟩ ?_
    refine rw_s (qs_idx Try.underlying22 Try.sizeOf54 (.ro hs) (by omega) rfl rfl rfl) rfl rfl ?_
    refine rw_s (qs_ldA (hcell _) rfl rfl Try.isAgg54 Try.sizeOf54) rfl rfl ?_
    refine rw_op (ot_alloc Try.zeroValue54 rfl rfl) rfl rfl (fun g4 _ => ?_)
    refine rw_op (ot_stb _ fc Try.sizeOf54 rfl rfl rfl rfl rfl (by rfl) rfl (by rfl)) rfl rfl (fun _ _ => ?_)
    refine rw_end ?_
    refine cw_cut (fun _ : (Option Addr × Nat) × (Option Addr × Nat) => True) (fun g => [(1, .pointer (some ⟨g1, 0, none⟩)), (2, .pointer (some ⟨g2, 0, none⟩)), (3, .pointer (some ⟨g3, 0, none⟩)), (4, .int .i64 (k : Int)), (5, .pointer (some ⟨g4, 0, none⟩))]) (fun g => [ROw (.slice A' (fs.take k).length c') (fs.take k), RBox g1 [.slice A fs.length c] 24, RBox g2 [.slice none 0 0] 24, RBox g3 [.slice A' (fs.take k).length c'] 24, RBox g4 [.int .i64 (fnAt fs k).params, .slice g.1.1 (fnAt fs k).locals.length g.1.2, .int .i64 (fnAt fs k).result, .slice g.2.1 (fnAt fs k).code.length g.2.2] 54, ROw (.slice g.1.1 (fnAt fs k).locals.length g.1.2) (fnAt fs k).locals, ROw (.slice g.2.1 (fnAt fs k).code.length g.2.2) (fnAt fs k).code]) ?_ ?_
    · refine cw_draw (.still 1 (.still 2 (.still 5 (.still 6 (.pick 0 (.pick 3 (.still 8 (.pick 4 (.pick 7 (.pick 9 (.calm 10 (.pick 11 .done .stop)) .stop) .stop) .stop)) (.pick 4 (.pick 3 (.still 8 (.pick 7 (.pick 9 (.calm 10 (.pick 11 .done .stop)) .stop) .stop)) .stop) .stop)) (.pick 4 (.pick 0 (.pick 3 (.still 8 (.pick 7 (.pick 9 (.calm 10 (.pick 11 .done .stop)) .stop) .stop)) .stop) .stop) .stop)))))) [9, 10, 11] rfl (by kernel_rfl) (by kernel_rfl) ?_
      refine ro_run tab_ok ha 1 [(1, _), (2, _), (3, _), (4, _), (5, _), (19, _)] rfl ⟨rfl, rfl, rfl, rfl, rfl, rfl, trivial⟩ ?_
      refine ro_s2 rfl (qs_ldb fc Try.isAgg35 rfl rfl (by rfl)) rfl rfl ha ?_
      refine ro_run tab_ok ha 1 [(1, _), (2, _), (3, _), (4, _), (5, _), (20, _), (23, _)] rfl ⟨rfl, rfl, rfl, rfl, rfl, rfl, rfl, trivial⟩ ?_
      refine ro_s2 rfl (qs_ldb fc Try.isAgg52 rfl rfl (by rfl)) rfl rfl ha ?_
      refine ro_op2 rfl ((ot_bsl (cs := []) Try.underlying35 Try.sizeOf3 Try.zeroValue3 rfl rfl rfl rfl rfl).mem (H'' := fun g => ROw (.slice (some ⟨g, 0, none⟩) 0 0) ([] : List Int) :: _) fun g w h => row_ow (α := Int) (m := 0) [] rfl (by simp) rfl (by decide) h) rfl rfl (.inr fun _ => ha) (fun ga _ => ?_) ?_
      · refine ro_op2 rfl (ot_appS (α := Int) (bytes := 8) (xs := []) (ys := (fnAt fs k).locals) (xs' := (fnAt fs k).locals) rfl Try.underlying35 (info_ex Try.inI) rfl fc (.ro hl) (by simp only [List.length_nil]; omega) (by simp only [List.length_nil]; omega) rfl rfl rfl) rfl rfl (.inr fun _ => ha) (fun ⟨A3, c3⟩ _ => ?_) ?_
        · try dsimp only
          refine ro_run tab_ok ha 1 [(1, _), (2, _), (3, _), (4, _), (5, _), (21, _), (24, _), (26, _)] rfl ⟨rfl, rfl, rfl, rfl, rfl, rfl, rfl, rfl, trivial⟩ ?_
          refine ro_op2 rfl ((ot_bsl (cs := []) Try.underlying52 Try.sizeOf61 Try.zeroValue61 rfl rfl rfl rfl rfl).mem (H'' := fun g => ROw (.slice (some ⟨g, 0, none⟩) 0 0) ([] : List MOp) :: _) fun g w h => row_ow (α := MOp) (m := 0) [] rfl (by simp) rfl (by decide) h) rfl rfl (.inr fun _ => ha) (fun go _ => ?_) ro_stop
          refine ro_op2 rfl (ot_appS (α := MOp) (bytes := 16) (xs := []) (ys := (fnAt fs k).code) (xs' := (fnAt fs k).code) rfl Try.underlying52 (info_ex Try.inOpV) rfl fc (.ro hc) (by simp only [List.length_nil]; omega) (by simp only [List.length_nil]; omega) rfl rfl rfl) rfl rfl (.inr fun _ => ha) (fun ⟨A4, c4⟩ _ => ?_) ro_stop
          try dsimp only
          refine ro_op2 rfl (ot_stb _ fc Try.sizeOf35 rfl rfl rfl rfl rfl (by rfl) rfl (by rfl)) rfl rfl (.inl rfl) (fun _ _ => ?_) ro_stop
          refine ro_runC tab_ok 1 [(1, _), (2, _), (3, _), (4, _), (5, _), (25, _), (27, _)] rfl ⟨rfl, rfl, rfl, rfl, rfl, rfl, rfl, trivial⟩ ?_
          refine ro_op2 rfl (ot_stb _ fc Try.sizeOf52 rfl rfl rfl rfl rfl (by rfl) rfl (by rfl)) rfl rfl (.inl rfl) (fun _ _ => ?_) ro_stop
          refine ro_endx <| xw_join ((A3, c3), (A4, c4)) (trivial) ⟨rfl, rfl, rfl, rfl, rfl, trivial⟩ (fun _ h => h.msub ms)
        · refine ro_op2 rfl ((ot_bsl (cs := []) Try.underlying52 Try.sizeOf61 Try.zeroValue61 rfl rfl rfl rfl rfl).mem (H'' := fun g => ROw (.slice (some ⟨g, 0, none⟩) 0 0) ([] : List MOp) :: _) fun g w h => row_ow (α := MOp) (m := 0) [] rfl (by simp) rfl (by decide) h) rfl rfl (.inr fun _ => ha) (fun go _ => ?_) ro_stop
          refine ro_op2 rfl (ot_appS (α := Int) (bytes := 8) (xs := []) (ys := (fnAt fs k).locals) (xs' := (fnAt fs k).locals) rfl Try.underlying35 (info_ex Try.inI) rfl fc (.ro hl) (by simp only [List.length_nil]; omega) (by simp only [List.length_nil]; omega) rfl rfl rfl) rfl rfl (.inr fun _ => ha) (fun ⟨A3, c3⟩ _ => ?_) ro_stop
          try dsimp only
          refine ro_run tab_ok ha 1 [(1, _), (2, _), (3, _), (4, _), (5, _), (21, _), (22, _), (24, _), (26, _)] rfl ⟨rfl, rfl, rfl, rfl, rfl, rfl, rfl, rfl, rfl, trivial⟩ ?_
          refine ro_op2 rfl (ot_appS (α := MOp) (bytes := 16) (xs := []) (ys := (fnAt fs k).code) (xs' := (fnAt fs k).code) rfl Try.underlying52 (info_ex Try.inOpV) rfl fc (.ro hc) (by simp only [List.length_nil]; omega) (by simp only [List.length_nil]; omega) rfl rfl rfl) rfl rfl (.inr fun _ => ha) (fun ⟨A4, c4⟩ _ => ?_) ro_stop
          try dsimp only
          refine ro_op2 rfl (ot_stb _ fc Try.sizeOf35 rfl rfl rfl rfl rfl (by rfl) rfl (by rfl)) rfl rfl (.inl rfl) (fun _ _ => ?_) ro_stop
          refine ro_runC tab_ok 1 [(1, _), (2, _), (3, _), (4, _), (5, _), (25, _), (27, _)] rfl ⟨rfl, rfl, rfl, rfl, rfl, rfl, rfl, trivial⟩ ?_
          refine ro_op2 rfl (ot_stb _ fc Try.sizeOf52 rfl rfl rfl rfl rfl (by rfl) rfl (by rfl)) rfl rfl (.inl rfl) (fun _ _ => ?_) ro_stop
          refine ro_endx <| xw_join ((A3, c3), (A4, c4)) (trivial) ⟨rfl, rfl, rfl, rfl, rfl, trivial⟩ (fun _ h => h.msub ms)
      · refine ro_op2 rfl ((ot_bsl (cs := []) Try.underlying52 Try.sizeOf61 Try.zeroValue61 rfl rfl rfl rfl rfl).mem (H'' := fun g => ROw (.slice (some ⟨g, 0, none⟩) 0 0) ([] : List MOp) :: _) fun g w h => row_ow (α := MOp) (m := 0) [] rfl (by simp) rfl (by decide) h) rfl rfl (.inr fun _ => ha) (fun go _ => ?_) ro_stop
        refine ro_op2 rfl ((ot_bsl (cs := []) Try.underlying35 Try.sizeOf3 Try.zeroValue3 rfl rfl rfl rfl rfl).mem (H'' := fun g => ROw (.slice (some ⟨g, 0, none⟩) 0 0) ([] : List Int) :: _) fun g w h => row_ow (α := Int) (m := 0) [] rfl (by simp) rfl (by decide) h) rfl rfl (.inr fun _ => ha) (fun ga _ => ?_) ro_stop
        refine ro_op2 rfl (ot_appS (α := Int) (bytes := 8) (xs := []) (ys := (fnAt fs k).locals) (xs' := (fnAt fs k).locals) rfl Try.underlying35 (info_ex Try.inI) rfl fc (.ro hl) (by simp only [List.length_nil]; omega) (by simp only [List.length_nil]; omega) rfl rfl rfl) rfl rfl (.inr fun _ => ha) (fun ⟨A3, c3⟩ _ => ?_) ro_stop
        try dsimp only
        refine ro_run tab_ok ha 1 [(1, _), (2, _), (3, _), (4, _), (5, _), (21, _), (22, _), (24, _), (26, _)] rfl ⟨rfl, rfl, rfl, rfl, rfl, rfl, rfl, rfl, rfl, trivial⟩ ?_
        refine ro_op2 rfl (ot_appS (α := MOp) (bytes := 16) (xs := []) (ys := (fnAt fs k).code) (xs' := (fnAt fs k).code) rfl Try.underlying52 (info_ex Try.inOpV) rfl fc (.ro hc) (by simp only [List.length_nil]; omega) (by simp only [List.length_nil]; omega) rfl rfl rfl) rfl rfl (.inr fun _ => ha) (fun ⟨A4, c4⟩ _ => ?_) ro_stop
        try dsimp only
        refine ro_op2 rfl (ot_stb _ fc Try.sizeOf35 rfl rfl rfl rfl rfl (by rfl) rfl (by rfl)) rfl rfl (.inl rfl) (fun _ _ => ?_) ro_stop
        refine ro_runC tab_ok 1 [(1, _), (2, _), (3, _), (4, _), (5, _), (25, _), (27, _)] rfl ⟨rfl, rfl, rfl, rfl, rfl, rfl, rfl, trivial⟩ ?_
        refine ro_op2 rfl (ot_stb _ fc Try.sizeOf52 rfl rfl rfl rfl rfl (by rfl) rfl (by rfl)) rfl rfl (.inl rfl) (fun _ _ => ?_) ro_stop
        refine ro_endx <| xw_join ((A3, c3), (A4, c4)) (trivial) ⟨rfl, rfl, rfl, rfl, rfl, trivial⟩ (fun _ h => h.msub ms)
    · rintro ⟨⟨A3, c3⟩, ⟨A4, c4⟩⟩ _
      try dsimp only
      refine cw_region ?_
      refine rw_run tab_ok 1 [(1, _), (2, _), (3, _), (4, _), (5, _), (28, _)] rfl ⟨rfl, rfl, rfl, rfl, rfl, rfl, trivial⟩ ?_
      refine rw_s (qs_ldb fc Try.isAgg22 rfl rfl (by rfl)) rfl rfl ?_
      refine rw_s (qs_ldbA (vs := [_, _, _, _]) fc Try.isAgg54 Try.sizeOf54 rfl rfl (by rfl) rfl) rfl rfl ?_
      refine rw_op (ot_bsl (cs := [_, _, _, _]) Try.underlying22 Try.sizeOf54 Try.zeroValue54 rfl rfl rfl rfl rfl) rfl rfl (fun g5 _ => ?_)
      refine rw_op (ot_app1 (α := MFunc) (bytes := 64) (fnAt fs k) [ROw (.slice A3 (fnAt fs k).locals.length c3) (fnAt fs k).locals, ROw (.slice A4 (fnAt fs k).code.length c4) (fnAt fs k).code] htk Try.underlying22 (info_ex Try.inFunc) rfl (perm4 fc fc fc fc) (hel_fn hi) (by omega) (by omega) rfl rfl rfl) rfl rfl (fun ⟨A5, c5⟩ _ => ?_)
      try dsimp only
      refine rw_run tab_ok 1 [(1, _), (2, _), (3, _), (4, _), (32, _), (33, _)] rfl ⟨rfl, rfl, rfl, rfl, rfl, rfl, trivial⟩ ?_
      refine rw_op (ot_stb _ fc Try.sizeOf22 rfl rfl rfl rfl rfl (by rfl) rfl (by rfl)) rfl rfl (fun _ _ => ?_)
      refine rw_endx (xw_blkn (xw_then ?_))
      refine cw_region ?_
      refine rw_run tab_ok 1 [(1, _), (2, _), (3, _), (11, _)] rfl ⟨rfl, rfl, rfl, rfl, trivial⟩ ?_
      refine rw_s (qs_add rfl rfl rfl (by omega)) rfl rfl ?_
      refine rw_run tab_ok 1 [(1, _), (2, _), (3, _), (4, _)] rfl ⟨rfl, rfl, rfl, rfl, trivial⟩ ?_
      refine rw_round (k + 1, A5, c5) (by show k + 1 ≤ _; omega) (by show _ - _ < _ - _; omega) ⟨rfl, rfl, rfl, rfl, trivial⟩ me
  · obtain rfl : k = fs.length := by omega
    rw [List.take_length]
    refine cw_exit (xw_thenx (xw_thenx (xw_blk (xw_then ?_))))
    refine cw_seq ?_
    refine cw_region ?_
    refine rw_s (qs_ldbA (vs := [_]) fc Try.isAgg24 Try.sizeOf24 rfl rfl (by rfl) rfl) rfl rfl ?_
    refine rw_op (ot_stb _ fc Try.sizeOf24 rfl rfl rfl rfl rfl (by rfl) rfl (by rfl)) rfl rfl (fun _ _ => ?_)
    refine rw_end ?_
    refine cw_ret ?_
    refine xw_ret1 Try.results34 (rv_box (cs := [_]) fc Try.isAgg24 Try.sizeOf24 rfl) ?_
    intro w hw
    exact ⟨(A', c'), trivial, rfl, hw.msub ms⟩
theorem Cw.oform {α : Type} [Ow α] {B : Nat} {w0 w : World} {H H' : List Res} {v : Value} {xs : List α} (hw : Cw B w0 H w) (hp : Foc H (ROw v xs) H') : ∃ A c, v = .slice A xs.length c := by
  obtain ⟨F, h, _⟩ := hw.rd hp
  obtain ⟨A, c, e, _⟩ := OwL.sl (show OwL w F v xs from h) |>.form
  exact ⟨A, c, e⟩
theorem map_set_fst {β γ : Type} {l : List (β × γ)} {k : Nat} (hk : k < l.length) {b : β} (hb : l[k].1 = b) (y : γ) : (l.set k (b, y)).map Prod.fst = l.map Prod.fst := by
  subst hb
  rw [List.map_set]
  apply List.ext_getElem (by simp)
  intro i h1 h2
  by_cases hi : k = i
  · subst hi; simp
  · simp [List.getElem_set_ne hi]
end Go.Proofs.Ytejpkcheimgdfaa

-- Fl7
/- Flow: what must be in any case; FlowTells, FlowBack. -/
namespace Go.Proofs.Ytejpkcheimgdfaa
open Go.RowKit

def threeL : List MOp := [⟨10, 2⟩, ⟨13, 0⟩, ⟨2, 0⟩]
theorem three_rch (q : Nat) : Rch threeL q ↔ q = 0 ∨ q = 2 ∨ q = 3 := by
  have e0 : Rch threeL 0 := .refl
  have e2 : Rch threeL 2 := .step e0 (by decide) (by decide)
  have e3 : Rch threeL 3 := .step e2 (by decide) (by decide)
  constructor
  · intro h
    induction h with
    | refl => exact .inl rfl
    | @step p r h1 h2 h3 ih =>
      have h2 : p < 3 := h2
      rcases ih with rfl | rfl | rfl
      · have : decide ((r : Int) = 2) = true := h3
        have := of_decide_eq_true this
        omega
      · have : decide ((r : Int) = (2 : Nat) + 1) = true := h3
        have := of_decide_eq_true this
        omega
      · omega
  · rintro (rfl | rfl | rfl)
    · exact e0
    · exact e2
    · exact e3
theorem three_reach : reachR threeL = [0, 2, 3] := by
  have hf : flowE threeL = 0 := by decide
  rw [reachR_of hf]
  refine rising_eq ((upto_sorted _).filter _) (by decide) fun a => ?_
  unfold reachL
  rw [List.mem_filter, upto_mem, rchB_iff, three_rch]
  simp only [List.mem_cons, List.not_mem_nil, or_false]
  have : threeL.length = 3 := rfl
  omega
set_option maxRecDepth 100000 in
set_option maxHeartbeats 1000000 in
theorem flowBegun_any (w : World) : Calls Try.prog 30 #[] w fun e w' => e = .returned (.bool true) ∧ Below w.heap.size w w' := by
  have e1 : nextE loopL 6 = 0 := by decide
  have e2 : nextR loopL 6 = [7, 8] := by decide
  have e3 : flowE threeL = 0 := by decide
  have e4 : backE loopL 1 = 0 := by decide
  have e5 : backR loopL 1 = [0, 7] := by decide
  refine enter Try.func30 rfl Try.ntmps30 rfl ?_
  refine cw_seq ?_
  refine cw_region ?_
  refine rw_run tab_ok 1 [] rfl trivial ?_
  refine rw_end ?_
  refine cw_seq ?_
  refine cw_region ?_
  refine rw_op (ot_c rfl rfl rfl Try.call55 (fun w hw => loop_any w)) rfl rfl (fun gl _ => ?_)
  refine rw_op (ot_c rfl rfl rfl Try.call33 (fun w hw => next_any (some ⟨gl, 0, none⟩) 10 loopL 6 w (SF.at_ (SF.own rfl fc) hw))) rfl rfl (fun ⟨A1, c1⟩ _ => ?_)
  try dsimp only
  refine rw_run tab_ok 5 [(1, _), (2, _)] rfl ⟨rfl, rfl, trivial⟩ ?_
  refine rw_end ?_
  refine cw_seq ?_
  refine cw_region ?_
  refine rw_s (qs_bst (cs := [_, _]) plT61 Try.zeroValue61 rfl rfl (by rfl)) rfl rfl ?_
  refine rw_s (qs_bst (cs := [_, _]) plT61 Try.zeroValue61 rfl rfl (by rfl)) rfl rfl ?_
  refine rw_s (qs_bst (cs := [_, _]) plT61 Try.zeroValue61 rfl rfl (by rfl)) rfl rfl ?_
  refine rw_op (ot_bsl (cs := [_, _, _, _, _, _]) Try.underlying52 Try.sizeOf61 Try.zeroValue61 rfl rfl rfl rfl rfl) rfl rfl (fun g1 _ => ?_)
  refine rw_mem (fun w h => row_ow (α := MOp) (m := 3) threeL rfl (i64s_of _ (by decide)) rfl (by decide) h) ?_
  refine rw_op (ot_c rfl rfl rfl Try.call31 (fun w hw => reach_any _ 3 threeL w (SF.at_ (SF.own rfl fc) hw))) rfl rfl (fun ⟨A2, c2⟩ _ => ?_)
  try dsimp only
  refine rw_run tab_ok 5 [(1, _), (2, _), (3, _), (4, _)] rfl ⟨rfl, rfl, rfl, rfl, trivial⟩ ?_
  refine rw_end ?_
  refine cw_seq ?_
  refine cw_region ?_
  refine rw_op (ot_c rfl rfl rfl Try.call55 (fun w hw => loop_any w)) rfl rfl (fun gl2 _ => ?_)
  refine rw_op (ot_c rfl rfl rfl Try.call56 (fun w hw => back_any (some ⟨gl2, 0, none⟩) 10 loopL 1 w (SF.at_ (SF.own rfl fc) hw))) rfl rfl (fun ⟨A3, c3⟩ _ => ?_)
  try dsimp only
  refine rw_run tab_ok 5 [(1, _), (2, _), (3, _), (4, _), (5, _), (6, _)] rfl ⟨rfl, rfl, rfl, rfl, rfl, rfl, trivial⟩ ?_
  refine rw_end ?_
  refine cw_seq ?_
  refine cw_region ?_
  refine rw_run tab_ok 3 [(1, _), (3, _), (4, _), (5, _), (6, _), (27, _)] rfl ⟨rfl, rfl, rfl, rfl, rfl, rfl, trivial⟩ ?_
  refine rw_as (t := 27) (v' := .bool true) rfl (by rw [e1]; rfl) ?_
  refine rw_run tab_ok 4 [(1, _), (3, _), (5, _), (6, _), (31, _)] rfl ⟨rfl, rfl, rfl, rfl, rfl, trivial⟩ ?_
  refine rw_as (t := 31) (v' := .bool true) rfl (by rw [e3]; rfl) ?_
  refine rw_run tab_ok 4 [(1, _), (3, _), (5, _), (35, _)] rfl ⟨rfl, rfl, rfl, rfl, trivial⟩ ?_
  refine rw_as (t := 35) (v' := .bool true) rfl (by rw [e4]; rfl) ?_
  refine rw_run tab_ok 1 [(3, _), (5, _), (35, _), (36, _)] rfl ⟨rfl, rfl, rfl, rfl, trivial⟩ ?_
  refine rw_op (ot_bsl (cs := [_, _]) Try.underlying35 Try.sizeOf3 Try.zeroValue3 rfl rfl rfl rfl rfl) rfl rfl (fun g2 _ => ?_)
  refine rw_mem (fun w h => row_ow (α := Int) (m := 2) [7, 8] rfl (two_i64 (by decide) (by decide)) rfl (by decide) h) ?_
  refine rw_op (ot_c0 rfl rfl rfl Try.call28 (fun w hw => sameInts_w _ _ _ _ (nextR loopL 6) [7, 8] w (SF.at_ (SF.own rfl fc) hw) (SF.at_ (SF.own rfl fc) hw))) rfl rfl (fun _ _ => ?_)
  refine rw_run tab_ok 2 [(3, _), (5, _), (40, _)] rfl ⟨rfl, rfl, rfl, trivial⟩ ?_
  refine rw_as (t := 40) (v' := .bool true) rfl (by rw [e2]; rfl) ?_
  refine rw_run tab_ok 1 [(5, _), (40, _), (41, _)] rfl ⟨rfl, rfl, rfl, trivial⟩ ?_
  refine rw_op (ot_bsl (cs := [_, _, _]) Try.underlying35 Try.sizeOf3 Try.zeroValue3 rfl rfl rfl rfl rfl) rfl rfl (fun g3 _ => ?_)
  refine rw_mem (fun w h => row_ow (α := Int) (m := 3) [0, 2, 3] rfl (by intro x hx; simp at hx; show I64 x; unfold I64; omega) rfl (by decide) h) ?_
  refine rw_op (ot_c0 rfl rfl rfl Try.call28 (fun w hw => sameInts_w _ _ _ _ (reachR threeL) [0, 2, 3] w (SF.at_ (SF.own rfl fc) hw) (SF.at_ (SF.own rfl fc) hw))) rfl rfl (fun _ _ => ?_)
  refine rw_run tab_ok 2 [(5, _), (45, _)] rfl ⟨rfl, rfl, trivial⟩ ?_
  refine rw_as (t := 45) (v' := .bool true) rfl (by rw [three_reach]; rfl) ?_
  refine rw_run tab_ok 1 [(45, _), (46, _)] rfl ⟨rfl, rfl, trivial⟩ ?_
  refine rw_op (ot_bsl (cs := [_, _]) Try.underlying35 Try.sizeOf3 Try.zeroValue3 rfl rfl rfl rfl rfl) rfl rfl (fun g4 _ => ?_)
  refine rw_mem (fun w h => row_ow (α := Int) (m := 2) [0, 7] rfl (two_i64 (by decide) (by decide)) rfl (by decide) h) ?_
  refine rw_op (ot_c0 rfl rfl rfl Try.call28 (fun w hw => sameInts_w _ _ _ _ (backR loopL 1) [0, 7] w (SF.at_ (SF.own rfl fc) hw) (SF.at_ (SF.own rfl fc) hw))) rfl rfl (fun _ _ => ?_)
  refine rw_run tab_ok 2 [(0, _)] rfl ⟨rfl, trivial⟩ ?_
  refine rw_end ?_
  refine cw_ret ?_
  refine xw_ret1 Try.results30 (rv_tmp rfl) ?_
  intro w hw
  exact ⟨ret_bool (by rw [e5]; rfl), hw.below⟩
set_option maxRecDepth 100000 in
theorem intsAre_any (A1 A2 : Option Addr) (c1 c2 : Nat) (xs ys : List Int) (a : Int) (w : World) (h1 : Sl w (.slice A1 xs.length c1) xs) (h2 : Sl w (.slice A2 ys.length c2) ys) (he : xs = ys) (hz : a ≠ 0 → xs = []) :
    Calls Try.prog 27 #[.slice A1 xs.length c1, .int .i64 a, .int .i64 a, .slice A2 ys.length c2] w fun e w' => e = .returned (.bool true) ∧ Below w.heap.size w w' := by
  refine enter Try.func27 rfl Try.ntmps27 rfl ?_
  refine cw_seq ?_
  refine cw_region ?_
  refine rw_run tab_ok 1 [(0, _), (1, _), (2, _), (3, _)] rfl ⟨rfl, rfl, rfl, rfl, trivial⟩ ?_
  refine rw_end ?_
  refine cw_seq ?_
  refine cw_seq ?_
  refine cw_region ?_
  refine rw_run tab_ok 2 [(0, _), (1, _), (2, _), (3, _), (10, _)] rfl ⟨rfl, rfl, rfl, rfl, rfl, trivial⟩ ?_
  refine rw_end ?_
  refine cw_condN rfl (fun h => ?_) (fun h => ?_)
  · refine cw_region ?_
    refine rw_run tab_ok 1 [(0, _), (1, _), (2, _), (3, _)] rfl ⟨rfl, rfl, rfl, rfl, trivial⟩ ?_
    refine rw_end ?_
    refine cw_seq ?_
    refine cw_region ?_
    refine rw_run tab_ok 4 [(0, _), (3, _), (14, _)] rfl ⟨rfl, rfl, rfl, trivial⟩ ?_
    refine rw_as (t := 14) (v' := .bool true) rfl (by rw [decide_eq_true (by rfl)]) ?_
    refine rw_run tab_ok 2 [(14, _), (15, _), (16, _)] rfl ⟨rfl, rfl, rfl, trivial⟩ ?_
    refine rw_op (ot_c0 rfl rfl rfl Try.call28 (fun w hw => sameInts_w _ none _ 0 xs [] w (hw.ro h1) Sl.nil_)) rfl rfl (fun _ _ => ?_)
    refine rw_run tab_ok 2 [(8, _)] rfl ⟨rfl, trivial⟩ ?_
    refine rw_end ?_
    refine cw_ret ?_
    refine xw_ret1 Try.results27 (rv_tmp rfl) ?_
    intro w hw
    exact ⟨ret_bool (by rw [hz h]; rfl), hw.below⟩
  · refine cw_skip (xw_then ?_)
    refine cw_seq ?_
    refine cw_region ?_
    refine rw_run tab_ok 4 [(0, _), (3, _), (14, _)] rfl ⟨rfl, rfl, rfl, trivial⟩ ?_
    refine rw_as (t := 14) (v' := .bool true) rfl (by rw [decide_eq_true (by rfl)]) ?_
    refine rw_run tab_ok 2 [(14, _), (15, _), (16, _)] rfl ⟨rfl, rfl, rfl, trivial⟩ ?_
    refine rw_op (ot_c0 rfl rfl rfl Try.call28 (fun w hw => sameInts_w _ _ _ _ xs ys w (hw.ro h1) (hw.ro h2))) rfl rfl (fun _ _ => ?_)
    refine rw_run tab_ok 2 [(8, _)] rfl ⟨rfl, trivial⟩ ?_
    refine rw_end ?_
    refine cw_ret ?_
    refine xw_ret1 Try.results27 (rv_tmp rfl) ?_
    intro w hw
    exact ⟨ret_bool (decide_eq_true he), hw.below⟩
end Go.Proofs.Ytejpkcheimgdfaa

