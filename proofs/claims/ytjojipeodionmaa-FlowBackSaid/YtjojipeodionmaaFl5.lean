/- Flow: all that may be come to; Reach. -/
import Derived.Test.YtjojipeodionmaaFl4
namespace Go.Proofs.Ytjojipeodionmaa
open Go.RowKit

/-- How many are not met. -/
def unmet (m : List Bool) : Nat := (List.range m.length).countP fun i => !m.getD i false
theorem countP_lt {p q : Nat → Bool} : ∀ {l : List Nat} {x0 : Nat}, (∀ x ∈ l, p x = true → q x = true) → x0 ∈ l → q x0 = true → p x0 = false → l.countP p < l.countP q
  | [], _, _, h, _, _ => by simp at h
  | a :: l, x0, h, hx, h1, h2 => by
    rw [List.countP_cons, List.countP_cons]
    rcases List.mem_cons.1 hx with e | hx
    · subst e
      have := List.countP_mono_left (l := l) fun x hx => h x (List.mem_cons_of_mem _ hx)
      simp only [h1, h2, if_true, Bool.false_eq_true, if_false]
      omega
    · have := countP_lt (fun x hx => h x (List.mem_cons_of_mem _ hx)) hx h1 h2
      have h5 : (if p a = true then 1 else 0) ≤ (if q a = true then 1 else 0) := by
        by_cases ha : p a = true
        · rw [if_pos ha, if_pos (h a (by simp) ha)]; exact Nat.le_refl _
        · rw [if_neg ha]; exact Nat.zero_le _
      omega
/-- m is met where m0 is. -/
def Met (m0 m : List Bool) : Prop := m.length = m0.length ∧ ∀ i, m0.getD i false = true → m.getD i false = true
theorem Met.refl (m : List Bool) : Met m m := ⟨rfl, fun _ h => h⟩
theorem Met.trans {a b c : List Bool} (h1 : Met a b) (h2 : Met b c) : Met a c := ⟨h2.1.trans h1.1, fun i h => h2.2 i (h1.2 i h)⟩
theorem Met.unmet {a b : List Bool} (h : Met a b) : unmet b ≤ unmet a := by
  unfold Proofs.Ytjojipeodionmaa.unmet
  rw [h.1]
  refine List.countP_mono_left fun x _ hx => ?_
  cases e : a.getD x false
  · rfl
  · rw [h.2 x e] at hx; exact hx
theorem set_getD (m : List Bool) (k i : Nat) (hk : k < m.length) : (m.set k true).getD i false = if i = k then true else m.getD i false := by
  rw [List.getD_eq_getElem?_getD, List.getD_eq_getElem?_getD, List.getElem?_set]
  by_cases h : k = i
  · subst h; rw [if_pos rfl, if_pos hk, if_pos rfl]; rfl
  · rw [if_neg h, if_neg (fun e => h e.symm)]
theorem Met.set {m : List Bool} {k : Nat} (hk : k < m.length) : Met m (m.set k true) := ⟨by simp, fun i h => by rw [set_getD m k i hk]; split; rfl; exact h⟩
theorem unmet_set {m : List Bool} {k : Nat} (hk : k < m.length) (h : m.getD k false = false) : Proofs.Ytjojipeodionmaa.unmet (m.set k true) < Proofs.Ytjojipeodionmaa.unmet m := by
  unfold Proofs.Ytjojipeodionmaa.unmet
  rw [List.length_set]
  refine countP_lt (x0 := k) (fun x _ hx => ?_) (List.mem_range.2 hk) (by rw [h]; rfl) (by rw [set_getD m k k hk, if_pos rfl]; rfl)
  rw [set_getD m k x hk] at hx
  split at hx
  · cases hx
  · exact hx
/-- What a visit does. -/
structure VP (l : List MOp) (m0 : List Bool) (pc : Nat) (m : List Bool) : Prop where
  met : Met m0 m
  self : m.getD pc false = true
  new : ∀ i, m.getD i false = true → m0.getD i false = false → RchF l pc i ∧ (i < l.length → ∀ q : Nat, goesOn (opAt l i) i q = true → m.getD q false = true)
/-- .. with the first j of those where it goes on visited. -/
structure LP (l : List MOp) (m0 : List Bool) (pc : Nat) (L : List Int) (j : Nat) (m : List Bool) : Prop where
  le : j ≤ L.length
  met : Met m0 m
  self : m.getD pc false = true
  new : ∀ i, m.getD i false = true → m0.getD i false = false → RchF l pc i ∧ (i ≠ pc → i < l.length → ∀ q : Nat, goesOn (opAt l i) i q = true → m.getD q false = true)
  old : ∀ i, i < j → m.getD (L.getD i 0).toNat false = true
section
variable {l : List MOp} {m0 m m2 : List Bool} {pc j : Nat}
theorem VP.old_ (h : m.getD pc false = true) : VP l m pc m := ⟨.refl _, h, fun i h1 h2 => by rw [h1] at h2; cases h2⟩
theorem LP.start (hp : pc < m0.length) (h : m0.getD pc false = false) (L : List Int) : LP l m0 pc L 0 (m0.set pc true) := by
  refine ⟨Nat.zero_le _, .set hp, by rw [set_getD _ _ _ hp, if_pos rfl], fun i h1 h2 => ?_, fun i h => absurd h (by omega)⟩
  rw [set_getD _ _ _ hp] at h1
  split at h1
  · rename_i e; subst e; exact ⟨.refl, fun h => absurd rfl h⟩
  · rw [h2] at h1; cases h1
theorem LP.next (h : LP l m0 pc (afterL (opAt l pc) pc) j m) (hp : pc < l.length) (hj : j < (afterL (opAt l pc) pc).length) (h0 : 0 ≤ (afterL (opAt l pc) pc).getD j 0) (hv : VP l m ((afterL (opAt l pc) pc).getD j 0).toNat m2) : LP l m0 pc (afterL (opAt l pc) pc) (j + 1) m2 := by
  have hm := h.met.trans hv.met
  refine ⟨hj, hm, hv.met.2 _ h.self, fun i h1 h2 => ?_, fun i hi => ?_⟩
  · cases e : m.getD i false
    · obtain ⟨h3, h4⟩ := hv.new i h1 e
      refine ⟨?_, fun _ => h4⟩
      refine RchF.trans (.step .refl hp ?_) h3
      have : (afterL (opAt l pc) pc).getD j 0 ∈ afterL (opAt l pc) pc := by rw [List.getD_eq_getElem?_getD, List.getElem?_eq_getElem hj]; exact List.getElem_mem hj
      have := (after_mem _ _ _).1 this
      rw [Int.toNat_of_nonneg h0]
      exact this
    · obtain ⟨h3, h4⟩ := h.new i e h2
      exact ⟨h3, fun a b q c => hv.met.2 _ (h4 a b q c)⟩
  · by_cases e : i = j
    · subst e; exact hv.self
    · exact hv.met.2 _ (h.old i (by omega))
theorem LP.end_ (h : LP l m0 pc (afterL (opAt l pc) pc) (afterL (opAt l pc) pc).length m) : VP l m0 pc m := by
  refine ⟨h.met, h.self, fun i h1 h2 => ?_⟩
  obtain ⟨h3, h4⟩ := h.new i h1 h2
  refine ⟨h3, fun hi q hg => ?_⟩
  by_cases e : i = pc
  · subst e
    have hm := (after_mem _ _ _).2 hg
    obtain ⟨k, hk, ek⟩ := List.getElem_of_mem hm
    have := h.old k hk
    rw [List.getD_eq_getElem?_getD (l := afterL _ _), List.getElem?_eq_getElem hk, Option.getD_some, ek, Int.toNat_natCast] at this
    exact this
  · exact h4 e hi q hg
theorem VP.last (hp : pc < m0.length) (h : m0.getD pc false = false) (hl : ¬ pc < l.length) : VP l m0 pc (m0.set pc true) := by
  have h := LP.start (l := l) hp h []
  refine ⟨h.met, h.self, fun i h1 h2 => ?_⟩
  obtain ⟨h3, h4⟩ := h.new i h1 h2
  exact ⟨h3, fun hi => by by_cases e : i = pc; exact absurd (e ▸ hi) hl; exact h4 e hi⟩
/-- All is met that may be come to. -/
theorem VP.all {n : Nat} (h : VP l (List.replicate n false) 0 m) (_ : n = l.length + 1) (_ : flowE l = 0) (q : Nat) : m.getD q false = true ↔ Rch l q := by
  have h0 : ∀ i, (List.replicate n false).getD i false = false := fun i => by rw [List.getD_eq_getElem?_getD, List.getElem?_replicate]; split <;> rfl
  constructor
  · exact fun hq => (h.new q hq (h0 q)).1
  · intro hr
    induction hr with
    | refl => exact h.self
    | step h1 h2 h3 ih => exact (h.new _ ih (h0 _)).2 h2 _ h3
theorem Rch.le (hf : flowE l = 0) {q : Nat} (h : Rch l q) : q ≤ l.length := by
  cases h with
  | refl => omega
  | step h1 h2 h3 => have := goes_in hf h2 h3; omega
end

set_option maxRecDepth 100000 in
set_option maxHeartbeats 1000000 in
theorem visit_any {B : Nat} {w0 : World} {l : List MOp} {A : Option Addr} {c : Nat} (hs : SlB w0 B (.slice A l.length c) l) (hf : flowE l = 0) (gm gc gv : Nat) (Am : Option Addr) (cm : Nat) (k : Nat) : ∀ (H : List Res) (m : List Bool) (pc : Nat) (z : Int) (w : World), z = pc → m.length = l.length + 1 → pc ≤ l.length → unmet m = k →
    Cw B w0 (RBox gm [.slice Am (l.length + 1) cm] 126 :: RBox gc [.slice A l.length c] 24 :: RBox gv [.func (.func 132) #[] #[.pointer (some ⟨gm, 0, none⟩), .pointer (some ⟨gc, 0, none⟩), .pointer (some ⟨gv, 0, none⟩)]] 141 :: ROw (.slice Am (l.length + 1) cm) m :: H) w →
    Calls Try.prog 132 #[.int .i64 z, .pointer (some ⟨gm, 0, none⟩), .pointer (some ⟨gc, 0, none⟩), .pointer (some ⟨gv, 0, none⟩)] w fun e w' => ∃ m2 : List Bool, VP l m pc m2 ∧ e = .returned (.tuple #[]) ∧
      Cw B w0 (RBox gm [.slice Am (l.length + 1) cm] 126 :: RBox gc [.slice A l.length c] 24 :: RBox gv [.func (.func 132) #[] #[.pointer (some ⟨gm, 0, none⟩), .pointer (some ⟨gc, 0, none⟩), .pointer (some ⟨gv, 0, none⟩)]] 141 :: ROw (.slice Am (l.length + 1) cm) m2 :: H) w' := by
  induction k using Nat.strongRecOn with
  | ind k ih =>
  intro H m pc z w hz hml hpc hk hw
  subst hz
  have b1 := len_bd hs
  refine enter_own Try.func132 rfl Try.ntmps132 rfl hw ?_
  refine cw_seq ?_
  refine cw_seq ?_
  refine cw_region ?_
  refine rw_s (qs_ldb (by first | exact .a | exact .b | exact .c | exact .d | exact .e | exact .s .e | exact .s (.s .e) | exact .s (.s (.s .e))) Try.isAgg126 rfl rfl (by rfl)) rfl rfl ?_
  refine rw_run tab_ok 1 [(0, _), (1, _), (2, _), (3, _), (7, _), (8, _)] rfl ⟨rfl, rfl, rfl, rfl, rfl, rfl, trivial⟩ ?_
  refine rw_s (qs_idx Try.underlying126 Try.sizeOf4 (.own hml (by first | exact .a | exact .b | exact .c | exact .d | exact .e | exact .s .e | exact .s (.s .e) | exact .s (.s (.s .e)))) (by omega) rfl rfl rfl) rfl rfl ?_
  refine rw_s (qs_ld (SF.bool (.own hml (by first | exact .a | exact .b | exact .c | exact .d | exact .e | exact .s .e | exact .s (.s .e) | exact .s (.s (.s .e)))) (by omega)) rfl rfl Try.isAgg4) rfl rfl ?_
  refine rw_end ?_
  refine cw_cond rfl (fun hm => ?_) (fun hm => ?_)
  · have hm : m.getD pc false = true := hm
    refine cw_ret (xw_thenr ?_)
    refine xw_ret0 Try.results132  ?_
    intro w hw
    exact ⟨m, .old_ hm, rfl, hw⟩
  · have hm : m.getD pc false = false := hm
    have hst := LP.start (l := l) (pc := pc) (by omega) hm (afterL (opAt l pc) pc)
    have hun := unmet_set (k := pc) (by omega) hm
    refine cw_skip (xw_then ?_)
    refine cw_seq ?_
    refine cw_region ?_
    refine rw_s (qs_ldb (by first | exact .a | exact .b | exact .c | exact .d | exact .e | exact .s .e | exact .s (.s .e) | exact .s (.s (.s .e))) Try.isAgg126 rfl rfl (by rfl)) rfl rfl ?_
    refine rw_run tab_ok 1 [(0, _), (2, _), (3, _), (11, _), (12, _)] rfl ⟨rfl, rfl, rfl, rfl, rfl, trivial⟩ ?_
    refine rw_s (qs_idx Try.underlying126 Try.sizeOf4 (.own hml (by first | exact .a | exact .b | exact .c | exact .d | exact .e | exact .s .e | exact .s (.s .e) | exact .s (.s (.s .e)))) (by omega) rfl rfl rfl) rfl rfl ?_
    refine rw_op (ot_stB (xs' := m.set pc true) rfl (by first | exact .a | exact .b | exact .c | exact .d | exact .e | exact .s .e | exact .s (.s .e) | exact .s (.s (.s .e))) (by omega) Try.sizeOf4 rfl rfl rfl) rfl rfl (fun _ _ => ?_)
    refine rw_end ?_
    refine cw_seq ?_
    refine cw_region ?_
    refine rw_run tab_ok 1 [(0, _), (2, _), (3, _), (14, _)] rfl ⟨rfl, rfl, rfl, rfl, trivial⟩ ?_
    refine rw_s (qs_ldb (by first | exact .a | exact .b | exact .c | exact .d | exact .e | exact .s .e | exact .s (.s .e) | exact .s (.s (.s .e))) Try.isAgg24 rfl rfl (by rfl)) rfl rfl ?_
    refine rw_s (qs_len Try.underlying24 rfl rfl) rfl rfl ?_
    refine rw_run tab_ok 1 [(0, _), (2, _), (3, _), (17, _)] rfl ⟨rfl, rfl, rfl, rfl, trivial⟩ ?_
    refine rw_end ?_
    refine cw_condD rfl (fun hlt => ?_) (fun hlt => ?_)
    · have hp : pc < l.length := by omega
      have ha2 := after_len (opAt l pc) pc
      refine cw_seq ?_
      refine cw_region ?_
      refine rw_s (qs_ldb (by first | exact .a | exact .b | exact .c | exact .d | exact .e | exact .s .e | exact .s (.s .e) | exact .s (.s (.s .e))) Try.isAgg24 rfl rfl (by rfl)) rfl rfl ?_
      refine rw_run tab_ok 1 [(3, _), (18, _), (19, _)] rfl ⟨rfl, rfl, rfl, trivial⟩ ?_
      refine rw_op (ot_c rfl rfl rfl Try.call105 (fun w hw => after_any A c l pc w (hw.ro hs) hp)) rfl rfl (fun ⟨A2, c2⟩ _ => ?_)
      try dsimp only
      refine rw_s (qs_len Try.underlying41 rfl rfl) rfl rfl ?_
      refine rw_run tab_ok 1 [(3, _), (20, _), (21, _), (22, _)] rfl ⟨rfl, rfl, rfl, rfl, trivial⟩ ?_
      refine rw_end ?_
      refine cw_block (cw_loop (fun g : Nat × List Bool => LP l m pc (afterL (opAt l pc) pc) g.1 g.2) (fun g => (afterL (opAt l pc) pc).length - g.1) (fun g => [(3, .pointer (some ⟨gv, 0, none⟩)), (20, .slice A2 (afterL (opAt l pc) pc).length c2), (21, .int .i64 ((afterL (opAt l pc) pc).length : Int)), (22, .int .i64 (g.1 : Int))]) (fun g => [ROw (.slice A2 (afterL (opAt l pc) pc).length c2) (afterL (opAt l pc) pc), RBox gm [.slice Am (l.length + 1) cm] 126, RBox gc [.slice A l.length c] 24, RBox gv [.func (.func 132) #[] #[.pointer (some ⟨gm, 0, none⟩), .pointer (some ⟨gc, 0, none⟩), .pointer (some ⟨gv, 0, none⟩)]] 141, ROw (.slice Am (l.length + 1) cm) g.2] ++ H) (0, m.set pc true) (hst) ⟨rfl, rfl, rfl, rfl, trivial⟩ (fun _ h => h.msub (by repeat (first | exact .r | exact .z | refine .s (by first | exact .a | exact .b | exact .c | exact .d | exact .e | exact .s .e | exact .s (.s .e) | exact .s (.s (.s .e))) ?_ | refine .d ?_))) ?_)
      rintro ⟨j, m1⟩ hj'
      try dsimp only
      have hj : LP l m pc (afterL (opAt l pc) pc) j m1 := hj'
      have hjle := hj.le
      refine cw_seq ?_
      refine cw_region ?_
      refine rw_run tab_ok 1 [(3, _), (20, _), (21, _), (22, _), (23, _)] rfl ⟨rfl, rfl, rfl, rfl, rfl, trivial⟩ ?_
      refine rw_end ?_
      refine cw_seq ?_
      refine cw_condD rfl (fun hjl => ?_) (fun hjl => ?_)
      · have hjl2 : j < (afterL (opAt l pc) pc).length := by omega
        have hmem : (afterL (opAt l pc) pc).getD j 0 ∈ afterL (opAt l pc) pc := by rw [List.getD_eq_getElem?_getD, List.getElem?_eq_getElem hjl2]; exact List.getElem_mem hjl2
        have hin := goes_in hf hp ((after_mem _ _ _).1 hmem)
        have hu1 := hj.met
        have hun2 : unmet m1 < k := by
          have h1 : Met (m.set pc true) m1 := ⟨by rw [hu1.1, List.length_set], fun i hi => by
            rw [set_getD _ _ _ (by omega)] at hi
            split at hi
            · rename_i e; rw [e]; exact hj.self
            · exact hu1.2 i hi⟩
          have := h1.unmet
          omega
        refine cw_skip (xw_then ?_)
        refine cw_seq ?_
        refine cw_block ?_
        refine cw_seq ?_
        refine cw_region ?_
        refine rw_s (qs_idx Try.underlying41 Try.sizeOf3 (.own rfl (by first | exact .a | exact .b | exact .c | exact .d | exact .e | exact .s .e | exact .s (.s .e) | exact .s (.s (.s .e)))) (by omega) rfl rfl rfl) rfl rfl ?_
        refine rw_s (qs_ld (SF.int (.own rfl (by first | exact .a | exact .b | exact .c | exact .d | exact .e | exact .s .e | exact .s (.s .e) | exact .s (.s (.s .e)))) (by omega)) rfl rfl Try.isAgg3) rfl rfl ?_
        refine rw_run tab_ok 1 [(3, _), (6, _), (20, _), (21, _), (22, _)] rfl ⟨rfl, rfl, rfl, rfl, rfl, trivial⟩ ?_
        refine rw_end ?_
        refine cw_region ?_
        refine rw_s (qs_ldb (by first | exact .a | exact .b | exact .c | exact .d | exact .e | exact .s .e | exact .s (.s .e) | exact .s (.s (.s .e))) Try.isAgg141 rfl rfl (by rfl)) rfl rfl ?_
        refine rw_run tab_ok 1 [(3, _), (20, _), (21, _), (22, _), (26, _), (27, _)] rfl ⟨rfl, rfl, rfl, rfl, rfl, rfl, trivial⟩ ?_
        refine rw_op (ot_callK rfl rfl rfl Try.call132 (fun w hw => ih _ hun2 (ROw (.slice A2 (afterL (opAt l pc) pc).length c2) (afterL (opAt l pc) pc) :: H) m1 ((afterL (opAt l pc) pc).getD j 0).toNat _ w (Int.toNat_of_nonneg hin.1).symm (by rw [hu1.1]; exact hml) (by omega) rfl (hw.msub (by repeat (first | exact .r | exact .z | refine .s (by first | exact .a | exact .b | exact .c | exact .d | exact .e | exact .s .e | exact .s (.s .e) | exact .s (.s (.s .e))) ?_ | refine .d ?_))))) rfl rfl (fun m2 hv => ?_)
        refine rw_endx (xw_blkn (xw_then ?_))
        refine cw_region ?_
        refine rw_s (qs_add rfl rfl rfl (by omega)) rfl rfl ?_
        refine rw_run tab_ok 1 [(3, _), (20, _), (21, _), (22, _)] rfl ⟨rfl, rfl, rfl, rfl, trivial⟩ ?_
        refine rw_round (j + 1, m2) (hj.next hp hjl2 hin.1 hv) (by show _ - _ < _ - _; omega) ⟨rfl, rfl, rfl, rfl, trivial⟩ (fun _ h => h.msub (by repeat (first | exact .r | exact .z | refine .s (by first | exact .a | exact .b | exact .c | exact .d | exact .e | exact .s .e | exact .s (.s .e) | exact .s (.s (.s .e))) ?_ | refine .d ?_)))
      · obtain rfl : j = (afterL (opAt l pc) pc).length := by omega
        refine cw_exit (xw_thenx (xw_thenx (xw_blk ?_)))
        refine xw_end0 Try.results132  ?_
        intro w hw
        exact ⟨m1, hj.end_, rfl, hw.msub (by repeat (first | exact .r | exact .z | refine .s (by first | exact .a | exact .b | exact .c | exact .d | exact .e | exact .s .e | exact .s (.s .e) | exact .s (.s (.s .e))) ?_ | refine .d ?_))⟩
    · refine cw_skip ?_
      refine xw_end0 Try.results132  ?_
      intro w hw
      exact ⟨m.set pc true, .last (by omega) hm (by omega), rfl, hw.msub (by repeat (first | exact .r | exact .z | refine .s (by first | exact .a | exact .b | exact .c | exact .d | exact .e | exact .s .e | exact .s (.s .e) | exact .s (.s (.s .e))) ?_ | refine .d ?_))⟩
end Go.Proofs.Ytjojipeodionmaa
