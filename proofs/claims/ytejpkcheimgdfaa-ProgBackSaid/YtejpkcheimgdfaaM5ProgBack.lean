/- Texts of one proof, one behind the other: lemmas alone. -/
import Derived.Test.YtejpkcheimgdfaaM4ProgBack
import Derived.Test.YtejpkcheimgdfaaM2ProgBack
import Derived.Test.YtejpkcheimgdfaaM3ProgBack

-- Dec
/- Bytes of code are read: what comes is the call's own. -/
namespace Go.Proofs.Ytejpkcheimgdfaa
open Go.RowKit

theorem wrapI_i64 (n : Int) : I64 (wrapI n) := by unfold wrapI I64; omega
theorem firstOp_i64 (b : UInt8) (r : List UInt8) : I64 (firstOp b r).1.c ∧ I64 (firstOp b r).1.a := by
  have hb := b.toNat_lt
  have h0 : I64 (b.toNat : Int) := by unfold I64; omega
  have h1 : I64 0 := by unfold I64; omega
  unfold firstOp
  split
  · exact ⟨h0, h1⟩
  split
  · exact ⟨h0, h1⟩
  · refine ⟨h0, ?_⟩
    dsimp only
    split
    · exact wrapI_i64 _
    · exact h1
theorem decodeGo_i64 (k : Nat) : ∀ (r : List UInt8) (out : List MOp), (∀ o ∈ out, I64 o.c ∧ I64 o.a) → out.length ≤ 40 → (∀ o ∈ (decodeGo k r out).1, I64 o.c ∧ I64 o.a) ∧ (decodeGo k r out).1.length ≤ 40 := by
  induction k with
  | zero => intro r out h h40; cases r <;> simp [decodeGo] <;> first | exact ⟨h, h40⟩ | skip
  | succ k ih =>
    intro r out h h40
    cases r with
    | nil => simpa [decodeGo] using ⟨h, h40⟩
    | cons b r =>
      simp only [decodeGo]
      split
      · simp
      split
      · simp
      · rename_i h41
        refine ih _ _ (fun o ho => ?_) (by simp at h41 ⊢; omega)
        rcases List.mem_append.1 ho with ho | ho
        · exact h o ho
        · simp at ho; subst ho; exact firstOp_i64 b r
theorem decodeOps_i64 (l : List UInt8) : (∀ o ∈ (decodeOps l).1, I64 o.c ∧ I64 o.a) ∧ (decodeOps l).1.length ≤ 40 := decodeGo_i64 _ _ _ (by simp) (by simp)

theorem own_ops {W : World} {base : Nat} {v : Value} {xs : List MOp} (h : W.ownsRow base 61 2 v xs.length (xs.flatMap opCells)) (hi : ∀ o ∈ xs, I64 o.c ∧ I64 o.a) (hl : xs.length ≤ 40) : Sl W v xs :=
  own_sl opCells h (fun o ho => ⟨rfl, hi o ho⟩) (by omega)
theorem decode_any (l : List UInt8) (w : World) (hl : l.length ≤ 140737488355320) : Calls Try.prog 65 #[.string ⟨l.toArray⟩] w fun e w' =>
    ∃ v, e = .returned (.tuple #[v, .int .i64 (decodeOps l).2]) ∧ Below w.heap.size w w' ∧ Sl w' v (decodeOps l).1 ∧ w'.ownsRow w.heap.size 61 2 v (decodeOps l).1.length ((decodeOps l).1.flatMap opCells) :=
  (callsIn_wide.1 (decode_in l w hl)).mono fun e w' ⟨v, h1, h2, h3⟩ => ⟨v, h1, h2, own_ops h3 (decodeOps_i64 l).1 (decodeOps_i64 l).2, own_mono h3 (by omega)⟩
theorem rcodeOf_sl (l : List UInt8) (w : World) (hl : l.length ≤ 140737488355320) : Calls Try.prog 45 #[.string ⟨l.toArray⟩] w fun e w' =>
    ∃ v, e = .returned (.tuple #[v, .int .i64 (decodeOps l).2]) ∧ Below w.heap.size w w' ∧ Sl w' v (decodeOps l).1 ∧ w'.ownsRow w.heap.size 61 2 v (decodeOps l).1.length ((decodeOps l).1.flatMap opCells) :=
  (rcodeOf_any l w hl).mono fun e w' ⟨v, h1, h2, h3⟩ => ⟨v, h1, h2, own_ops h3 (decodeOps_i64 l).1 (decodeOps_i64 l).2, h3⟩


theorem own_flat {α : Type} [FOw α] {W : World} {base : Nat} {v : Value} {xs : List α} (h : W.ownsRow base (Ow.ty α) (Rep.k α) v xs.length (xs.flatMap FOw.enc)) (hwf : ∀ x ∈ xs, FOw.wf x) (hl : xs.length ≤ 140737488355328) : OwN W base v xs := by
  have hlen : ∀ x ∈ xs, (FOw.enc x).length = Rep.k α := fun x hx => Rep.len (FOw.rep_iff.2 ⟨rfl, hwf x hx⟩ : Rep.rep W 0 (FOw.enc x) x)
  refine OwN.of_zs h h.1 (fun i x hx => ?_) hl
  have hxm := List.mem_of_getElem? hx
  refine FOw.own_iff.2 ⟨⟨?_, hwf x hxm⟩, fun _ h => h⟩
  apply List.ext_getElem?
  intro j
  by_cases hj : j < Rep.k α
  · have hi : j < (FOw.enc x).length := by rw [hlen x hxm]; exact hj
    have := flat_get FOw.enc (Rep.k α) xs hlen i x j _ hx (List.getElem?_eq_getElem hi)
    rw [List.getElem?_take, if_pos hj, List.getElem?_drop, this, List.getElem?_eq_getElem hi]
  · rw [List.getElem?_eq_none (by rw [List.length_take]; omega), List.getElem?_eq_none (by rw [hlen x hxm]; omega)]
theorem decode_own (l : List UInt8) (w : World) (hl : l.length ≤ 140737488355320) : Calls Try.prog 65 #[.string ⟨l.toArray⟩] w fun e w' =>
    ∃ v, e = .returned (.tuple #[v, .int .i64 (decodeOps l).2]) ∧ Below w.heap.size w w' ∧ OwN w' w.heap.size v (decodeOps l).1 :=
  (decode_any l w hl).mono fun e w' ⟨v, h1, h2, _, h3⟩ => ⟨v, h1, h2, own_flat h3 (decodeOps_i64 l).1 (by have := (decodeOps_i64 l).2; omega)⟩
theorem rcodeOf_own (l : List UInt8) (w : World) (hl : l.length ≤ 140737488355320) : Calls Try.prog 45 #[.string ⟨l.toArray⟩] w fun e w' =>
    ∃ v, e = .returned (.tuple #[v, .int .i64 (decodeOps l).2]) ∧ Below w.heap.size w w' ∧ OwN w' w.heap.size v (decodeOps l).1 :=
  (rcodeOf_sl l w hl).mono fun e w' ⟨v, h1, h2, _, h3⟩ => ⟨v, h1, h2, own_flat h3 (decodeOps_i64 l).1 (by have := (decodeOps_i64 l).2; omega)⟩
end Go.Proofs.Ytejpkcheimgdfaa

-- Pr10
/- Programs: the reader's function. -/
namespace Go.Proofs.Ytejpkcheimgdfaa
open Go.RowKit

theorem cutB_bd (l : List UInt8) (n : Int) : (cutB l n).1.length ≤ l.length ∧ (cutB l n).2.1.length ≤ l.length := by
  unfold cutB
  split
  · simp
  · simp only [List.length_take, List.length_drop]; omega
theorem oneR_bd {s s' : List UInt8} {sh sh' : Bool} {p : Int} (e : oneR (s, sh) = (p, s', sh')) : (0 ≤ p ∧ p ≤ 255) ∧ s'.length ≤ s.length := by
  have hb := (cutB_bd s 1).2
  unfold oneR at e
  injection e with e1 e2
  injection e2 with e2 e3
  refine ⟨?_, ?_⟩
  · subst e1
    split
    · omega
    · rename_i b l _
      have := b.toNat_lt
      omega
  · rw [← e2]; exact hb
theorem takeR_bd {s s' c : List UInt8} {sh sh' : Bool} {n : Int} (e : takeR (s, sh) n = (c, s', sh')) : c.length ≤ s.length ∧ s'.length ≤ s.length := by
  have hb := cutB_bd s n
  unfold takeR at e
  injection e with e1 e2
  injection e2 with e2 e3
  subst e1 e2
  exact hb
theorem localsR_bd : ∀ (k : Nat) (s s' : List UInt8) (sh sh' : Bool) (acc L : List Int), localsR k (s, sh) acc = (L, s', sh') → s'.length ≤ s.length ∧ L.length ≤ acc.length + k
  | 0, s, s', sh, sh', acc, L, e => by
    simp only [localsR, Prod.mk.injEq] at e
    obtain ⟨rfl, rfl, rfl⟩ := e
    omega
  | k + 1, s, s', sh, sh', acc, L, e => by
    simp only [localsR] at e
    split at e
    · simp only [Prod.mk.injEq] at e
      obtain ⟨rfl, rfl, rfl⟩ := e
      omega
    · obtain ⟨p, s1, b1, e1⟩ : ∃ p s1 b1, oneR (s, sh) = (p, s1, b1) := ⟨_, _, _, rfl⟩
      rw [e1] at e
      have h1 := oneR_bd e1
      have h2 := localsR_bd k _ _ _ _ _ _ e
      rw [List.length_append, List.length_singleton] at h2
      omega
section
variable {B : Nat} {w0 : World} {H : List Res}
theorem rdone_eq (gr : Nat) {s s' : List UInt8} {sh sh' : Bool} {p : Int} (e : oneR (s, sh) = (p, s', sh')) (hl : s.length ≤ 140737488355328) (w : World) (hw : Cw B w0 (RBox gr [.string ⟨s.toArray⟩, .bool sh] 74 :: H) w) :
    Calls Try.prog 38 #[.pointer (some ⟨gr, 0, none⟩)] w fun e w' => ∃ g : Unit, True ∧ e = .returned (.int .i64 p) ∧
      Cw B w0 (RBox gr [.string ⟨s'.toArray⟩, .bool sh'] 74 :: H) w' := by
  have := rdone_any gr s sh hl w hw
  rw [e] at this
  exact this
theorem take_eq (gr : Nat) {s s' c : List UInt8} {sh sh' : Bool} {n : Int} (e : takeR (s, sh) n = (c, s', sh')) (h0 : 0 ≤ n) (hl : s.length ≤ 140737488355328) (w : World) (hw : Cw B w0 (RBox gr [.string ⟨s.toArray⟩, .bool sh] 74 :: H) w) :
    Calls Try.prog 64 #[.pointer (some ⟨gr, 0, none⟩), .int .i64 n] w fun e w' => ∃ g : Unit, True ∧ e = .returned (.string ⟨c.toArray⟩) ∧
      Cw B w0 (RBox gr [.string ⟨s'.toArray⟩, .bool sh'] 74 :: H) w' := by
  have := take_any gr s sh n h0 hl w hw
  rw [e] at this
  exact this
end
theorem qs_shl8 {P : Program} {n : Nat} {o : Oper} {env : Env} {B : Nat} {w0 : World} {H : List Res} {i : Operand} {t u : TypeId} {a : Int} {kk : IntKind} (ha : 0 ≤ a ∧ a ≤ 255) (hop : o.op = .binOp .shl t i (.const (.int kk 8)) u) (hi : opv env i = some (.int .i64 a)) : QS P n B w0 o env H (.int .i64 (a * 256)) := by
  intro a' w hf hw
  have hgd : (eqGuard .shl t i (.const (.int kk 8)) (.int .i64 a) (.int kk 8)).run P w = .ok () w := by
    unfold eqGuard
    split <;> simp
  have hb : (binOp .shl t (.int .i64 a) (.int kk 8)).run P w = .ok (.int .i64 (a * 256)) w := by
    simp only [binOp, Op.shift]
    rw [if_neg (by decide)]
    have : IntKind.i64.wrap (a * 2 ^ (min (8 : Int).toNat IntKind.i64.bits)) = a * 256 := by
      show IntKind.i64.wrap (a * 256) = _
      exact i64_wrap (by omega) (by omega)
    rw [this]
    rfl
  have hj : a'.eval (.const (.int kk 8)) = .int kk 8 := rfl
  unfold execOp
  simp only [hop, hf.opv hi, hj, Sem.run_bind, hgd, Result.andThen_ok, hb, Sem.run_pure]
theorem or_low (a b : Nat) (hb : b ≤ 255) : a * 256 ||| b = a * 256 + b := by
  have := Nat.two_pow_add_eq_or_of_lt (i := 8) (b := b) (by omega) a
  rw [show (2 : Nat) ^ 8 = 256 from rfl] at this
  rw [Nat.mul_comm, this]
theorem qs_or8 {P : Program} {n : Nat} {o : Oper} {env : Env} {B : Nat} {w0 : World} {H : List Res} {i j : Operand} {t u : TypeId} {a b : Int} (ha : 0 ≤ a ∧ a ≤ 255) (hb : 0 ≤ b ∧ b ≤ 255) (hop : o.op = .binOp .or t i j u) (hi : opv env i = some (.int .i64 (a * 256))) (hj : opv env j = some (.int .i64 b)) : QS P n B w0 o env H (.int .i64 (a * 256 + b)) :=
  qs_arith hop hi hj (by decide) fun w => by
    obtain ⟨x, rfl⟩ := Int.eq_ofNat_of_zero_le ha.1
    obtain ⟨y, rfl⟩ := Int.eq_ofNat_of_zero_le hb.1
    have h1 : (BitVec.ofInt 64 ((x : Int) * 256) ||| BitVec.ofInt 64 (y : Int)).toNat = x * 256 + y := by
      rw [show ((x : Int) * 256) = ((x * 256 : Nat) : Int) from by omega, BitVec.ofInt_natCast, BitVec.ofInt_natCast, BitVec.toNat_or, BitVec.toNat_ofNat, BitVec.toNat_ofNat, Nat.mod_eq_of_lt (by omega), Nat.mod_eq_of_lt (by omega), or_low _ _ (by omega)]
    have h2 : (binOp .or t (.int .i64 ((x : Int) * 256)) (.int .i64 (y : Int))).run P w = .ok (.int .i64 (IntKind.i64.wrap ((BitVec.ofInt 64 ((x : Int) * 256) ||| BitVec.ofInt 64 (y : Int)).toNat : Int))) w := rfl
    rw [h2, h1, i64_wrap (by omega) (by omega)]
    have h3 : ((x * 256 + y : Nat) : Int) = (x : Int) * 256 + (y : Int) := by omega
    rw [h3]
set_option maxRecDepth 100000 in
set_option maxHeartbeats 4000000 in
theorem pfunc_any {B : Nat} {w0 : World} {H : List Res} (gr : Nat) (s : List UInt8) (sh : Bool) (hl : s.length ≤ 2000) (w : World) (hw : Cw B w0 (RBox gr [.string ⟨s.toArray⟩, .bool sh] 74 :: H) w) :
    Calls Try.prog 39 #[.pointer (some ⟨gr, 0, none⟩)] w fun e w' => ∃ g : (Option Addr × Nat) × (Option Addr × Nat), True ∧
      e = .returned (.agg #[.int .i64 (funcR (s, sh)).1.params, .slice g.1.1 (funcR (s, sh)).1.locals.length g.1.2, .int .i64 (funcR (s, sh)).1.result, .slice g.2.1 (funcR (s, sh)).1.code.length g.2.2]) ∧
      Cw B w0 (RBox gr [.string ⟨(funcR (s, sh)).2.1.toArray⟩, .bool (funcR (s, sh)).2.2] 74 :: ROw (.slice g.1.1 (funcR (s, sh)).1.locals.length g.1.2) (funcR (s, sh)).1.locals :: ROw (.slice g.2.1 (funcR (s, sh)).1.code.length g.2.2) (funcR (s, sh)).1.code :: H) w' := by
  obtain ⟨p, s1, b1, e1⟩ : ∃ p s1 b1, oneR (s, sh) = (p, s1, b1) := ⟨_, _, _, rfl⟩
  obtain ⟨n, s2, b2, e2⟩ : ∃ p s1' b1', oneR (s1, b1) = (p, s1', b1') := ⟨_, _, _, rfl⟩
  obtain ⟨L, s3, b3, e3⟩ : ∃ p s1' b1', localsR n.toNat (s2, b2) [] = (p, s1', b1') := ⟨_, _, _, rfl⟩
  obtain ⟨t, s4, b4, e4⟩ : ∃ p s1' b1', oneR (s3, b3) = (p, s1', b1') := ⟨_, _, _, rfl⟩
  obtain ⟨x, s5, b5, e5⟩ : ∃ p s1' b1', oneR (s4, b4) = (p, s1', b1') := ⟨_, _, _, rfl⟩
  obtain ⟨y, s6, b6, e6⟩ : ∃ p s1' b1', oneR (s5, b5) = (p, s1', b1') := ⟨_, _, _, rfl⟩
  obtain ⟨c, s7, b7, e7⟩ : ∃ p s1' b1', takeR (s6, b6) (x * 256 + y) = (p, s1', b1') := ⟨_, _, _, rfl⟩
  have hfun : funcR (s, sh) = (⟨p, L, t, (decodeOps c).1⟩, s7, b7 || !decide ((decodeOps c).2 = 0)) := by
    unfold funcR
    simp only [e1, e2, e3, e4, e5, e6, e7]
    simp
  rw [hfun]
  have d1 := oneR_bd e1
  have d2 := oneR_bd e2
  have d3 := localsR_bd _ _ _ _ _ _ _ e3
  have d4 := oneR_bd e4
  have d5 := oneR_bd e5
  have d6 := oneR_bd e6
  have d7 := takeR_bd e7
  rw [List.length_nil] at d3
  refine enter_own Try.func39 rfl Try.ntmps39 rfl hw ?_
  refine cw_seq ?_
  refine cw_region ?_
  refine rw_op (ot_alloc Try.zeroValue54 rfl rfl) rfl rfl (fun g1 _ => ?_)
  refine rw_end ?_
  refine cw_seq ?_
  refine cw_region ?_
  refine rw_run tab_ok 1 [(0, _), (2, _), (8, _)] rfl ⟨rfl, rfl, rfl, trivial⟩ ?_
  refine rw_op (ot_call rfl rfl rfl Try.call38 (fun w hw => rdone_eq gr e1 (by omega) w (hw.msub (.s (by first | (repeat (first | with_reducible exact .a | with_reducible apply Foc.s)); done | (repeat (first | exact .a | apply Foc.s))) .r)))) rfl rfl (fun _ _ => ?_)
  refine rw_s (qs_bst (cs := [_, _, _, _]) plT54 Try.zeroValue54 rfl rfl (by rfl)) rfl rfl ?_
  refine rw_op (ot_alloc Try.zeroValue54 rfl rfl) rfl rfl (fun g2 _ => ?_)
  refine rw_op (ot_stb _ (by first | (repeat (first | with_reducible exact .a | with_reducible apply Foc.s)); done | (repeat (first | exact .a | apply Foc.s))) Try.sizeOf54 rfl rfl rfl rfl rfl (by rfl) rfl (by rfl)) rfl rfl (fun _ _ => ?_)
  refine rw_end ?_
  refine cw_seq ?_
  refine cw_seq ?_
  refine cw_region ?_
  refine rw_run tab_ok 1 [(0, _), (2, _), (3, _), (11, _)] rfl ⟨rfl, rfl, rfl, rfl, trivial⟩ ?_
  refine rw_op (ot_call rfl rfl rfl Try.call38 (fun w hw => rdone_eq gr e2 (by omega) w (hw.msub (.s (by first | (repeat (first | with_reducible exact .a | with_reducible apply Foc.s)); done | (repeat (first | exact .a | apply Foc.s))) .r)))) rfl rfl (fun _ _ => ?_)
  refine rw_run tab_ok 1 [(0, _), (2, _), (3, _), (4, _)] rfl ⟨rfl, rfl, rfl, rfl, trivial⟩ ?_
  refine rw_end ?_
  refine cw_cutk (fun _ : Option Addr × Nat => True) (fun g => [(0, .pointer (some ⟨gr, 0, none⟩)), (2, .pointer (some ⟨g1, 0, none⟩)), (3, .pointer (some ⟨g2, 0, none⟩))]) (fun g => [RBox gr [.string ⟨s3.toArray⟩, .bool b3] 74, RBox g2 [.int .i64 p, .slice g.1 L.length g.2, .int .i64 0, .slice none 0 0] 54, ROw (.slice g.1 L.length g.2) L, RBox g1 [.int .i64 0, .slice none 0 0, .int .i64 0, .slice none 0 0] 54] ++ H) ?_ ?_
  · refine cw_mem (fun w h => Cw.nilO Int h) ?_
    refine cw_block (cw_loop (fun g : Int × List UInt8 × Bool × List Int × Option Addr × Nat => (localsR g.1.toNat (g.2.1, g.2.2.1) g.2.2.2.1 = (L, s3, b3) ∧ g.2.1.length ≤ 2000) ∧ (g.1 ≤ 255 ∧ g.2.2.2.1.length + g.1.toNat ≤ 255)) (fun g => g.1.toNat) (fun g => [(0, .pointer (some ⟨gr, 0, none⟩)), (2, .pointer (some ⟨g1, 0, none⟩)), (3, .pointer (some ⟨g2, 0, none⟩)), (4, .int .i64 g.1)]) (fun g => [RBox gr [.string ⟨g.2.1.toArray⟩, .bool g.2.2.1] 74, RBox g2 [.int .i64 p, .slice g.2.2.2.2.1 g.2.2.2.1.length g.2.2.2.2.2, .int .i64 0, .slice none 0 0] 54, ROw (.slice g.2.2.2.2.1 g.2.2.2.1.length g.2.2.2.2.2) g.2.2.2.1, RBox g1 [.int .i64 0, .slice none 0 0, .int .i64 0, .slice none 0 0] 54] ++ H) (n, s2, b2, [], none, 0) (⟨⟨e3, by show s2.length ≤ _; omega⟩, ⟨d2.1.2, by show 0 + n.toNat ≤ _; omega⟩⟩) ⟨rfl, rfl, rfl, rfl, trivial⟩ (fun _ h => h.msub (by repeat (first | exact .r | exact .z | refine .s (by first | (repeat (first | with_reducible exact .a | with_reducible apply Foc.s)); done | (repeat (first | exact .a | apply Foc.s))) ?_ | refine .d ?_))) ?_)
    rintro ⟨k, u, ub, acc, Aj, cj⟩ hj
    try dsimp only
    obtain ⟨⟨hj1, hj2⟩, hj3, hj4⟩ : (localsR k.toNat (u, ub) acc = (L, s3, b3) ∧ u.length ≤ 2000) ∧ (k ≤ 255 ∧ acc.length + k.toNat ≤ 255) := hj
    refine cw_seq ?_
    refine cw_seq ?_
    refine cw_region ?_
    refine rw_run tab_ok 3 [(0, _), (2, _), (3, _), (4, _), (15, _)] rfl ⟨rfl, rfl, rfl, rfl, rfl, trivial⟩ ?_
    refine rw_split (t := 15) rfl (fun h1 => ?_) (fun h1 => ?_)
    · have h1 := of_decide_eq_true h1
      refine rw_run tab_ok 3 [(0, _), (2, _), (3, _), (4, _), (15, _), (18, _)] rfl ⟨rfl, rfl, rfl, rfl, rfl, rfl, trivial⟩ ?_
      refine rw_s (qs_ldb (by first | (repeat (first | with_reducible exact .a | with_reducible apply Foc.s)); done | (repeat (first | exact .a | apply Foc.s))) Try.isAgg4 rfl rfl (by rfl)) rfl rfl ?_
      refine rw_run tab_ok 2 [(0, _), (2, _), (3, _), (4, _), (21, _)] rfl ⟨rfl, rfl, rfl, rfl, rfl, trivial⟩ ?_
      refine rw_end ?_
      refine cw_cond rfl (fun h2 => ?_) (fun h2 => ?_)
      · have hub : ub = false := by simpa using h2
        obtain ⟨q, u1, ub1, e8⟩ : ∃ p s1' b1', oneR (u, ub) = (p, s1', b1') := ⟨_, _, _, rfl⟩
        have d8 := oneR_bd e8
        have hnx : localsR (k - 1).toNat (u1, ub1) (acc ++ [q]) = (L, s3, b3) := by
          rw [show k.toNat = (k - 1).toNat + 1 from by omega, localsR, hub] at hj1
          rw [← hub] at hj1
          rw [e8, hub] at hj1
          simpa using hj1
        refine cw_skip (xw_then ?_)
        refine cw_seq ?_
        refine cw_block ?_
        refine cw_drawq (.still 0 (.still 1 (.still 2 (.pick 3 (.pick 4 (.pick 5 (.still 6 (.pick 7 .done .stop)) .stop) .stop) .stop)))) [7] rfl (by kernel_rfl) (by kernel_rfl) [RBox g2 [.int .i64 p, .slice Aj acc.length cj, .int .i64 0, .slice none 0 0] 54] ?_
        refine ro_run tab_ok (by first | exact Has.rfl | exact Has.s Has.rfl | exact Has.m (by repeat (first | exact .z | refine .s (by first | (repeat (first | with_reducible exact .a | with_reducible apply Foc.s)); done | (repeat (first | exact .a | apply Foc.s))) ?_))) 1 [(0, _), (2, _), (3, _), (4, _), (24, _)] rfl ⟨rfl, rfl, rfl, rfl, rfl, trivial⟩ ?_
        refine ro_s2 rfl (qs_ldb (by first | (repeat (first | with_reducible exact .a | with_reducible apply Foc.s)); done | (repeat (first | exact .a | apply Foc.s))) Try.isAgg35 rfl rfl (by rfl)) rfl rfl (by first | exact Has.rfl | exact Has.s Has.rfl | exact Has.m (by repeat (first | exact .z | refine .s (by first | (repeat (first | with_reducible exact .a | with_reducible apply Foc.s)); done | (repeat (first | exact .a | apply Foc.s))) ?_))) ?_
        refine ro_run tab_ok (by first | exact Has.rfl | exact Has.s Has.rfl | exact Has.m (by repeat (first | exact .z | refine .s (by first | (repeat (first | with_reducible exact .a | with_reducible apply Foc.s)); done | (repeat (first | exact .a | apply Foc.s))) ?_))) 1 [(0, _), (2, _), (3, _), (4, _), (25, _), (26, _)] rfl ⟨rfl, rfl, rfl, rfl, rfl, rfl, trivial⟩ ?_
        refine ro_op2 rfl (ot_call rfl rfl rfl Try.call38 (fun w hw => rdone_eq gr e8 (by omega) w (hw.msub (.s (by first | (repeat (first | with_reducible exact .a | with_reducible apply Foc.s)); done | (repeat (first | exact .a | apply Foc.s))) .r)))) rfl rfl (.inr fun _ => (by first | exact Has.rfl | exact Has.s Has.rfl | exact Has.m (by repeat (first | exact .z | refine .s (by first | (repeat (first | with_reducible exact .a | with_reducible apply Foc.s)); done | (repeat (first | exact .a | apply Foc.s))) ?_)))) (fun _ _ => ?_) ro_stop
        refine ro_op2 rfl (ot_bsl (cs := [_]) Try.underlying35 Try.sizeOf3 Try.zeroValue3 rfl rfl rfl rfl rfl) rfl rfl (.inr fun _ => (by first | exact Has.rfl | exact Has.s Has.rfl | exact Has.m (by repeat (first | exact .z | refine .s (by first | (repeat (first | with_reducible exact .a | with_reducible apply Foc.s)); done | (repeat (first | exact .a | apply Foc.s))) ?_)))) (fun g3 _ => ?_) ro_stop
        refine ro_op2 rfl (ot_app1 (α := Int) (bytes := 8) q [] rfl Try.underlying35 (info_ex Try.inI) rfl (perm2 (by first | (repeat (first | with_reducible exact .a | with_reducible apply Foc.s)); done | (repeat (first | exact .a | apply Foc.s))) (by first | (repeat (first | with_reducible exact .a | with_reducible apply Foc.s)); done | (repeat (first | exact .a | apply Foc.s)))) (hel_flat ⟨by omega, by omega⟩) (by omega) (by omega) rfl rfl rfl) rfl rfl (.inr fun _ => (by first | exact Has.rfl | exact Has.s Has.rfl | exact Has.m (by repeat (first | exact .z | refine .s (by first | (repeat (first | with_reducible exact .a | with_reducible apply Foc.s)); done | (repeat (first | exact .a | apply Foc.s))) ?_)))) (fun ⟨A5, c5⟩ _ => ?_) ro_stop
        try dsimp only
        refine ro_run tab_ok (by first | exact Has.rfl | exact Has.s Has.rfl | exact Has.m (by repeat (first | exact .z | refine .s (by first | (repeat (first | with_reducible exact .a | with_reducible apply Foc.s)); done | (repeat (first | exact .a | apply Foc.s))) ?_))) 1 [(0, _), (2, _), (3, _), (4, _), (29, _), (30, _)] rfl ⟨rfl, rfl, rfl, rfl, rfl, rfl, trivial⟩ ?_
        refine ro_op2 rfl (ot_stb _ (by first | (repeat (first | with_reducible exact .a | with_reducible apply Foc.s)); done | (repeat (first | exact .a | apply Foc.s))) Try.sizeOf35 rfl rfl rfl rfl rfl (by rfl) rfl (by rfl)) rfl rfl (.inl rfl) (fun _ _ => ?_) ro_stop
        refine ro_endx (xw_blkn (xw_then ?_))
        refine cw_region ?_
        refine rw_run tab_ok 1 [(0, _), (2, _), (3, _), (22, _)] rfl ⟨rfl, rfl, rfl, rfl, trivial⟩ ?_
        refine rw_s (qs_sub rfl rfl rfl (by omega)) rfl rfl ?_
        refine rw_run tab_ok 1 [(0, _), (2, _), (3, _), (4, _)] rfl ⟨rfl, rfl, rfl, rfl, trivial⟩ ?_
        refine rw_round (k - 1, u1, ub1, acc ++ [q], A5, c5) (⟨⟨hnx, by show u1.length ≤ _; omega⟩, ⟨by show k - 1 ≤ _; omega, by show (acc ++ [q]).length + (k - 1).toNat ≤ _; rw [List.length_append, List.length_singleton]; omega⟩⟩) (by show (k - 1).toNat < k.toNat; omega) ⟨rfl, rfl, rfl, rfl, trivial⟩ (fun _ h => h.msub (by repeat (first | exact .r | exact .z | refine .s (by first | (repeat (first | with_reducible exact .a | with_reducible apply Foc.s)); done | (repeat (first | exact .a | apply Foc.s))) ?_ | refine .d ?_)))
      · have hub : ub = true := by simpa using h2
        have hx : localsR k.toNat (u, ub) acc = (acc, u, ub) := by
          rw [show k.toNat = (k - 1).toNat + 1 from by omega, localsR, hub]; rfl
        rw [hx] at hj1
        simp only [Prod.mk.injEq] at hj1
        obtain ⟨rfl, rfl, rfl⟩ := hj1
        refine cw_exit (xw_thenx (xw_thenx (xw_blk ?_)))
        refine xw_join (Aj, cj) (trivial) ⟨rfl, rfl, rfl, trivial⟩ (fun _ h => h.msub (by repeat (first | exact .r | exact .z | refine .s (by first | (repeat (first | with_reducible exact .a | with_reducible apply Foc.s)); done | (repeat (first | exact .a | apply Foc.s))) ?_ | refine .d ?_)))
    · have h1 := of_decide_eq_false h1
      have hx : localsR k.toNat (u, ub) acc = (acc, u, ub) := by
        rw [show k.toNat = 0 from by omega]; rfl
      rw [hx] at hj1
      simp only [Prod.mk.injEq] at hj1
      obtain ⟨rfl, rfl, rfl⟩ := hj1
      refine rw_run tab_ok 6 [(0, _), (2, _), (3, _), (4, _), (21, _)] rfl ⟨rfl, rfl, rfl, rfl, rfl, trivial⟩ ?_
      refine rw_end ?_
      refine cw_cond_f rfl ?_
      refine cw_exit (xw_thenx (xw_thenx (xw_blk ?_)))
      refine xw_join (Aj, cj) (trivial) ⟨rfl, rfl, rfl, trivial⟩ (fun _ h => h.msub (by repeat (first | exact .r | exact .z | refine .s (by first | (repeat (first | with_reducible exact .a | with_reducible apply Foc.s)); done | (repeat (first | exact .a | apply Foc.s))) ?_ | refine .d ?_)))
  · rintro ⟨A3, c3⟩ _
    try dsimp only
    refine cw_seq ?_
    refine cw_region ?_
    refine rw_run tab_ok 1 [(0, _), (2, _), (3, _), (31, _)] rfl ⟨rfl, rfl, rfl, rfl, trivial⟩ ?_
    refine rw_op (ot_call rfl rfl rfl Try.call38 (fun w hw => rdone_eq gr e4 (by omega) w (hw.msub (.s (by first | (repeat (first | with_reducible exact .a | with_reducible apply Foc.s)); done | (repeat (first | exact .a | apply Foc.s))) .r)))) rfl rfl (fun _ _ => ?_)
    refine rw_run tab_ok 1 [(0, _), (2, _), (3, _), (32, _), (33, _)] rfl ⟨rfl, rfl, rfl, rfl, rfl, trivial⟩ ?_
    refine rw_op (ot_stb _ (by first | (repeat (first | with_reducible exact .a | with_reducible apply Foc.s)); done | (repeat (first | exact .a | apply Foc.s))) Try.sizeOf3 rfl rfl rfl rfl rfl (by rfl) rfl (by rfl)) rfl rfl (fun _ _ => ?_)
    refine rw_end ?_
    refine cw_seq ?_
    refine cw_region ?_
    refine rw_run tab_ok 1 [(0, _), (2, _), (3, _), (34, _)] rfl ⟨rfl, rfl, rfl, rfl, trivial⟩ ?_
    refine rw_op (ot_call rfl rfl rfl Try.call38 (fun w hw => rdone_eq gr e5 (by omega) w (hw.msub (.s (by first | (repeat (first | with_reducible exact .a | with_reducible apply Foc.s)); done | (repeat (first | exact .a | apply Foc.s))) .r)))) rfl rfl (fun _ _ => ?_)
    refine rw_s (qs_shl8 d5.1 rfl rfl) rfl rfl ?_
    refine rw_run tab_ok 1 [(0, _), (2, _), (3, _), (5, _)] rfl ⟨rfl, rfl, rfl, rfl, trivial⟩ ?_
    refine rw_end ?_
    refine cw_seq ?_
    refine cw_region ?_
    refine rw_run tab_ok 2 [(0, _), (2, _), (3, _), (37, _), (38, _)] rfl ⟨rfl, rfl, rfl, rfl, rfl, trivial⟩ ?_
    refine rw_op (ot_call rfl rfl rfl Try.call38 (fun w hw => rdone_eq gr e6 (by omega) w (hw.msub (.s (by first | (repeat (first | with_reducible exact .a | with_reducible apply Foc.s)); done | (repeat (first | exact .a | apply Foc.s))) .r)))) rfl rfl (fun _ _ => ?_)
    refine rw_s (qs_or8 d5.1 d6.1 rfl rfl rfl) rfl rfl ?_
    refine rw_run tab_ok 1 [(0, _), (2, _), (3, _), (5, _)] rfl ⟨rfl, rfl, rfl, rfl, trivial⟩ ?_
    refine rw_end ?_
    refine cw_seq ?_
    refine cw_region ?_
    refine rw_run tab_ok 2 [(0, _), (2, _), (3, _), (42, _), (43, _)] rfl ⟨rfl, rfl, rfl, rfl, rfl, trivial⟩ ?_
    refine rw_op (ot_call rfl rfl rfl Try.call64 (fun w hw => take_eq gr e7 (by omega) (by omega) w (hw.msub (.s (by first | (repeat (first | with_reducible exact .a | with_reducible apply Foc.s)); done | (repeat (first | exact .a | apply Foc.s))) .r)))) rfl rfl (fun _ _ => ?_)
    refine rw_op (ot_cO rfl rfl rfl Try.call65 (fun w hw => decode_own c w (by omega))) rfl rfl (fun ⟨A8, c8⟩ _ => ?_)
    try dsimp only
    refine rw_run tab_ok 5 [(0, _), (2, _), (3, _), (6, _), (7, _)] rfl ⟨rfl, rfl, rfl, rfl, rfl, trivial⟩ ?_
    refine rw_end ?_
    refine cw_seq ?_
    refine cw_region ?_
    refine rw_run tab_ok 2 [(0, _), (2, _), (3, _), (7, _), (48, _), (49, _)] rfl ⟨rfl, rfl, rfl, rfl, rfl, rfl, trivial⟩ ?_
    refine rw_op (ot_stb _ (by first | (repeat (first | with_reducible exact .a | with_reducible apply Foc.s)); done | (repeat (first | exact .a | apply Foc.s))) Try.sizeOf52 rfl rfl rfl rfl rfl (by rfl) rfl (by rfl)) rfl rfl (fun _ _ => ?_)
    refine rw_end ?_
    refine cw_seq ?_
    refine cw_region ?_
    refine rw_run tab_ok 4 [(2, _), (3, _), (7, _), (50, _), (53, _)] rfl ⟨rfl, rfl, rfl, rfl, rfl, trivial⟩ ?_
    refine rw_s (qs_ldb (by first | (repeat (first | with_reducible exact .a | with_reducible apply Foc.s)); done | (repeat (first | exact .a | apply Foc.s))) Try.isAgg4 rfl rfl (by rfl)) rfl rfl ?_
    refine rw_run tab_ok 1 [(2, _), (3, _), (7, _), (50, _), (55, _)] rfl ⟨rfl, rfl, rfl, rfl, rfl, trivial⟩ ?_
    refine rw_split (t := 55) rfl (fun h1 => ?_) (fun h1 => ?_)
    · have h1 : b7 = true := h1
      subst h1
      refine rw_run tab_ok 5 [(2, _), (3, _), (58, _), (60, _)] rfl ⟨rfl, rfl, rfl, rfl, trivial⟩ ?_
      refine rw_op (ot_stb _ (by first | (repeat (first | with_reducible exact .a | with_reducible apply Foc.s)); done | (repeat (first | exact .a | apply Foc.s))) Try.sizeOf4 rfl rfl rfl rfl rfl (by rfl) rfl (by rfl)) rfl rfl (fun _ _ => ?_)
      refine rw_end ?_
      refine cw_seq ?_
      refine cw_region ?_
      refine rw_s (qs_ldbA (vs := [_, _, _, _]) (by first | (repeat (first | with_reducible exact .a | with_reducible apply Foc.s)); done | (repeat (first | exact .a | apply Foc.s))) Try.isAgg54 Try.sizeOf54 rfl rfl (by rfl) rfl) rfl rfl ?_
      refine rw_op (ot_stb _ (by first | (repeat (first | with_reducible exact .a | with_reducible apply Foc.s)); done | (repeat (first | exact .a | apply Foc.s))) Try.sizeOf54 rfl rfl rfl rfl rfl (by rfl) rfl (by rfl)) rfl rfl (fun _ _ => ?_)
      refine rw_end ?_
      refine cw_ret ?_
      refine xw_ret1 Try.results39 (rv_box (cs := [_, _, _, _]) (by first | (repeat (first | with_reducible exact .a | with_reducible apply Foc.s)); done | (repeat (first | exact .a | apply Foc.s))) Try.isAgg54 Try.sizeOf54 rfl) ?_
      intro w hw
      exact ⟨((A3, c3), (A8, c8)), trivial, rfl, hw.msub (by repeat (first | exact .r | exact .z | refine .s (by first | (repeat (first | with_reducible exact .a | with_reducible apply Foc.s)); done | (repeat (first | exact .a | apply Foc.s))) ?_ | refine .d ?_))⟩
    · have h1 : b7 = false := h1
      subst h1
      refine rw_run tab_ok 5 [(2, _), (3, _), (58, _), (60, _)] rfl ⟨rfl, rfl, rfl, rfl, trivial⟩ ?_
      refine rw_op (ot_stb _ (by first | (repeat (first | with_reducible exact .a | with_reducible apply Foc.s)); done | (repeat (first | exact .a | apply Foc.s))) Try.sizeOf4 rfl rfl rfl rfl rfl (by rfl) rfl (by rfl)) rfl rfl (fun _ _ => ?_)
      refine rw_end ?_
      refine cw_seq ?_
      refine cw_region ?_
      refine rw_s (qs_ldbA (vs := [_, _, _, _]) (by first | (repeat (first | with_reducible exact .a | with_reducible apply Foc.s)); done | (repeat (first | exact .a | apply Foc.s))) Try.isAgg54 Try.sizeOf54 rfl rfl (by rfl) rfl) rfl rfl ?_
      refine rw_op (ot_stb _ (by first | (repeat (first | with_reducible exact .a | with_reducible apply Foc.s)); done | (repeat (first | exact .a | apply Foc.s))) Try.sizeOf54 rfl rfl rfl rfl rfl (by rfl) rfl (by rfl)) rfl rfl (fun _ _ => ?_)
      refine rw_end ?_
      refine cw_ret ?_
      refine xw_ret1 Try.results39 (rv_box (cs := [_, _, _, _]) (by first | (repeat (first | with_reducible exact .a | with_reducible apply Foc.s)); done | (repeat (first | exact .a | apply Foc.s))) Try.isAgg54 Try.sizeOf54 rfl) ?_
      intro w hw
      exact ⟨((A3, c3), (A8, c8)), trivial, rfl, hw.msub (by repeat (first | exact .r | exact .z | refine .s (by first | (repeat (first | with_reducible exact .a | with_reducible apply Foc.s)); done | (repeat (first | exact .a | apply Foc.s))) ?_ | refine .d ?_))⟩
end Go.Proofs.Ytejpkcheimgdfaa

-- Pr11
/- Programs: Decode. -/
namespace Go.Proofs.Ytejpkcheimgdfaa
open Go.RowKit

theorem funcR_bd {s s' : List UInt8} {sh sh' : Bool} {f : MFunc} (e : funcR (s, sh) = (f, s', sh')) : s'.length ≤ s.length ∧ (I64 f.params ∧ I64 f.result) ∧ f.locals.length ≤ 255 ∧ f.code.length ≤ 40 := by
  obtain ⟨p, s1, b1, e1⟩ : ∃ p s1 b1, oneR (s, sh) = (p, s1, b1) := ⟨_, _, _, rfl⟩
  obtain ⟨n, s2, b2, e2⟩ : ∃ p s1' b1', oneR (s1, b1) = (p, s1', b1') := ⟨_, _, _, rfl⟩
  obtain ⟨L, s3, b3, e3⟩ : ∃ p s1' b1', localsR n.toNat (s2, b2) [] = (p, s1', b1') := ⟨_, _, _, rfl⟩
  obtain ⟨t, s4, b4, e4⟩ : ∃ p s1' b1', oneR (s3, b3) = (p, s1', b1') := ⟨_, _, _, rfl⟩
  obtain ⟨x, s5, b5, e5⟩ : ∃ p s1' b1', oneR (s4, b4) = (p, s1', b1') := ⟨_, _, _, rfl⟩
  obtain ⟨y, s6, b6, e6⟩ : ∃ p s1' b1', oneR (s5, b5) = (p, s1', b1') := ⟨_, _, _, rfl⟩
  obtain ⟨c, s7, b7, e7⟩ : ∃ p s1' b1', takeR (s6, b6) (x * 256 + y) = (p, s1', b1') := ⟨_, _, _, rfl⟩
  unfold funcR at e
  simp only [e1, e2, e3, e4, e5, e6, e7, Prod.mk.injEq] at e
  obtain ⟨rfl, rfl, rfl⟩ := e
  have d1 := oneR_bd e1
  have d2 := oneR_bd e2
  have d3 := localsR_bd _ _ _ _ _ _ _ e3
  have d4 := oneR_bd e4
  have d5 := oneR_bd e5
  have d6 := oneR_bd e6
  have d7 := takeR_bd e7
  rw [List.length_nil] at d3
  exact ⟨by omega, ⟨⟨by show _ ≤ p; omega, by show p ≤ _; omega⟩, ⟨by show _ ≤ t; omega, by show t ≤ _; omega⟩⟩, by show L.length ≤ _; omega, (decodeOps_i64 c).2⟩
theorem funcsR_bd : ∀ (k : Nat) (s s' : List UInt8) (sh sh' : Bool) (acc L : List MFunc), funcsR k (s, sh) acc = (L, s', sh') → s'.length ≤ s.length ∧ L.length ≤ acc.length + k
  | 0, s, s', sh, sh', acc, L, e => by
    simp only [funcsR, Prod.mk.injEq] at e
    obtain ⟨rfl, rfl, rfl⟩ := e
    omega
  | k + 1, s, s', sh, sh', acc, L, e => by
    simp only [funcsR] at e
    split at e
    · simp only [Prod.mk.injEq] at e
      obtain ⟨rfl, rfl, rfl⟩ := e
      omega
    · obtain ⟨p, s1, b1, e1⟩ : ∃ p s1 b1, funcR (s, sh) = (p, s1, b1) := ⟨_, _, _, rfl⟩
      rw [e1] at e
      have h1 := funcR_bd e1
      have h2 := funcsR_bd k _ _ _ _ _ _ e
      rw [List.length_append, List.length_singleton] at h2
      omega
theorem Try.inFunc : (Try.prog.info? 54).map (fun i => (i.zero, i.size, i.bytes)) = some (some (.agg #[.int .i64 0, .slice none 0 0, .int .i64 0, .slice none 0 0]), 4, 64) := by kernel_rfl
section
variable {B : Nat} {w0 : World} {H : List Res}
theorem pfunc_eq (gr : Nat) {s s' : List UInt8} {sh sh' : Bool} {f : MFunc} (e : funcR (s, sh) = (f, s', sh')) (hl : s.length ≤ 2000) (w : World) (hw : Cw B w0 (RBox gr [.string ⟨s.toArray⟩, .bool sh] 74 :: H) w) :
    Calls Try.prog 39 #[.pointer (some ⟨gr, 0, none⟩)] w fun e w' => ∃ g : (Option Addr × Nat) × (Option Addr × Nat), True ∧
      e = .returned (.agg #[.int .i64 f.params, .slice g.1.1 f.locals.length g.1.2, .int .i64 f.result, .slice g.2.1 f.code.length g.2.2]) ∧
      Cw B w0 (RBox gr [.string ⟨s'.toArray⟩, .bool sh'] 74 :: ROw (.slice g.1.1 f.locals.length g.1.2) f.locals :: ROw (.slice g.2.1 f.code.length g.2.2) f.code :: H) w' := by
  have := pfunc_any gr s sh hl w hw
  rw [e] at this
  exact this
end
theorem own_ret {α : Type} [Ow α] {w w' : World} {v : Value} {xs : List α} (hw : Cw w.heap.size w [ROw v xs] w') : Below w.heap.size w w' ∧ OwN w' w.heap.size v xs := by
  obtain ⟨F, h1, h2⟩ := hw.head
  exact ⟨hw.below, F, h1, h2⟩
theorem nil_ret {α : Type} [Ow α] {w w' : World} {H : List Res} (hw : Cw w.heap.size w H w') : Below w.heap.size w w' ∧ OwN w' w.heap.size (.slice none 0 0) ([] : List α) := ⟨hw.below, OwN.nil_ _ _⟩
set_option maxRecDepth 100000 in
set_option maxHeartbeats 4000000 in
theorem pdecode_any (s : List UInt8) (w : World) (hl : s.length ≤ 140737488355320) :
    Calls Try.prog 11 #[.string ⟨s.toArray⟩] w fun e w' => ∃ u, e = .returned (.tuple #[.agg #[u], .int .i64 (decodeP s).2]) ∧ Below w.heap.size w w' ∧ OwN w' w.heap.size u (decodeP s).1 := by
  refine enter Try.func11 rfl Try.ntmps11 rfl ?_
  refine cw_seq ?_
  refine cw_region ?_
  refine rw_op (ot_alloc Try.zeroValue24 rfl rfl) rfl rfl (fun g1 _ => ?_)
  refine rw_run tab_ok 1 [(0, _), (2, _)] rfl ⟨rfl, rfl, trivial⟩ ?_
  refine rw_end ?_
  refine cw_seq ?_
  refine cw_seq ?_
  refine cw_region ?_
  refine rw_run tab_ok 1 [(0, _), (2, _), (8, _)] rfl ⟨rfl, rfl, rfl, trivial⟩ ?_
  refine rw_s (qs_lenS Try.underlying9 rfl rfl) rfl rfl ?_
  refine rw_run tab_ok 1 [(0, _), (2, _), (10, _)] rfl ⟨rfl, rfl, rfl, trivial⟩ ?_
  refine rw_end ?_
  refine cw_condD rfl (fun h0 => ?_) (fun h0 => ?_)
  · have hd : decodeP s = ([], 2) := by unfold decodeP; rw [if_pos (by omega)]
    refine cw_seq ?_
    refine cw_region ?_
    refine rw_s (qs_bst (cs := [_]) plT24 Try.zeroValue24 rfl rfl (by rfl)) rfl rfl ?_
    refine rw_op (ot_stb _ (by first | (repeat (first | with_reducible exact .a | with_reducible apply Foc.s)); done | (repeat (first | exact .a | apply Foc.s))) Try.sizeOf24 rfl rfl rfl rfl rfl (by rfl) rfl (by rfl)) rfl rfl (fun _ _ => ?_)
    refine rw_run tab_ok 1 [(2, _), (3, _)] rfl ⟨rfl, rfl, trivial⟩ ?_
    refine rw_end ?_
    refine cw_ret (xw_thenr ?_)
    refine xw_ret2 Try.results11 (rv_box (cs := [_]) (by first | (repeat (first | with_reducible exact .a | with_reducible apply Foc.s)); done | (repeat (first | exact .a | apply Foc.s))) Try.isAgg24 Try.sizeOf24 rfl) (rv_tmp rfl) ?_
    intro w hw
    rw [hd]
    exact ⟨_, rfl, nil_ret hw⟩
  · obtain ⟨n, s1, b1, e1⟩ : ∃ p s1 b1, oneR (s, false) = (p, s1, b1) := ⟨_, _, _, rfl⟩
    obtain ⟨F, s2, b2, e2⟩ : ∃ p s1' b1', funcsR n.toNat (s1, b1) [] = (p, s1', b1') := ⟨_, _, _, rfl⟩
    have d1 := oneR_bd e1
    have d2 := funcsR_bd _ _ _ _ _ _ _ e2
    rw [List.length_nil] at d2
    have hp : parseP s = (F, s2, b2) := by unfold parseP; rw [e1]; exact e2
    refine cw_skip (xw_then ?_)
    refine cw_seq ?_
    refine cw_region ?_
    refine rw_run tab_ok 1 [(2, _), (12, _)] rfl ⟨rfl, rfl, trivial⟩ ?_
    refine rw_s (qs_bst (cs := [_, _]) plT74 Try.zeroValue74 rfl rfl (by rfl)) rfl rfl ?_
    refine rw_op (ot_box rfl rfl rfl) rfl rfl (fun g2 _ => ?_)
    refine rw_run tab_ok 1 [(2, _), (4, _)] rfl ⟨rfl, rfl, trivial⟩ ?_
    refine rw_end ?_
    refine cw_seq ?_
    refine cw_region ?_
    refine rw_op (ot_alloc Try.zeroValue24 rfl rfl) rfl rfl (fun g3 _ => ?_)
    refine rw_end ?_
    refine cw_seq ?_
    refine cw_seq ?_
    refine cw_region ?_
    refine rw_run tab_ok 1 [(2, _), (4, _), (5, _), (15, _)] rfl ⟨rfl, rfl, rfl, rfl, trivial⟩ ?_
    refine rw_op (ot_call rfl rfl rfl Try.call38 (fun w hw => rdone_eq g2 e1 (by omega) w (hw.msub (.s (by first | (repeat (first | with_reducible exact .a | with_reducible apply Foc.s)); done | (repeat (first | exact .a | apply Foc.s))) .r)))) rfl rfl (fun _ _ => ?_)
    refine rw_run tab_ok 1 [(2, _), (4, _), (5, _), (6, _)] rfl ⟨rfl, rfl, rfl, rfl, trivial⟩ ?_
    refine rw_end ?_
    refine cw_cutk (fun _ : Option Addr × Nat => True) (fun g => [(2, .pointer (some ⟨g1, 0, none⟩)), (4, .pointer (some ⟨g2, 0, none⟩)), (5, .pointer (some ⟨g3, 0, none⟩))]) (fun g => [RBox g2 [.string ⟨s2.toArray⟩, .bool b2] 74, RBox g3 [.slice g.1 F.length g.2] 24, ROw (.slice g.1 F.length g.2) F, RBox g1 [.slice none 0 0] 24]) ?_ ?_
    · refine cw_mem (fun w h => Cw.nilO MFunc h) ?_
      refine cw_block (cw_loop (fun g : Int × List UInt8 × Bool × List MFunc × Option Addr × Nat => (funcsR g.1.toNat (g.2.1, g.2.2.1) g.2.2.2.1 = (F, s2, b2) ∧ g.2.1.length ≤ 2000) ∧ (g.1 ≤ 255 ∧ g.2.2.2.1.length + g.1.toNat ≤ 255)) (fun g => g.1.toNat) (fun g => [(2, .pointer (some ⟨g1, 0, none⟩)), (4, .pointer (some ⟨g2, 0, none⟩)), (5, .pointer (some ⟨g3, 0, none⟩)), (6, .int .i64 g.1)]) (fun g => [RBox g2 [.string ⟨g.2.1.toArray⟩, .bool g.2.2.1] 74, RBox g3 [.slice g.2.2.2.2.1 g.2.2.2.1.length g.2.2.2.2.2] 24, ROw (.slice g.2.2.2.2.1 g.2.2.2.1.length g.2.2.2.2.2) g.2.2.2.1, RBox g1 [.slice none 0 0] 24]) (n, s1, b1, [], none, 0) (⟨⟨e2, by show s1.length ≤ _; omega⟩, ⟨d1.1.2, by show 0 + n.toNat ≤ _; omega⟩⟩) ⟨rfl, rfl, rfl, rfl, trivial⟩ (by first | exact fun _ h => h | exact fun _ h => h.msub (by repeat (first | exact .z | refine .s (by first | (repeat (first | with_reducible exact .a | with_reducible apply Foc.s)); done | (repeat (first | exact .a | apply Foc.s))) ?_))) ?_)
      rintro ⟨k, u, ub, acc, Aj, cj⟩ hj
      try dsimp only
      obtain ⟨⟨hj1, hj2⟩, hj3, hj4⟩ : (funcsR k.toNat (u, ub) acc = (F, s2, b2) ∧ u.length ≤ 2000) ∧ (k ≤ 255 ∧ acc.length + k.toNat ≤ 255) := hj
      refine cw_seq ?_
      refine cw_seq ?_
      refine cw_region ?_
      refine rw_run tab_ok 3 [(2, _), (4, _), (5, _), (6, _), (19, _)] rfl ⟨rfl, rfl, rfl, rfl, rfl, trivial⟩ ?_
      refine rw_split (t := 19) rfl (fun h1 => ?_) (fun h1 => ?_)
      · have h1 := of_decide_eq_true h1
        refine rw_run tab_ok 3 [(2, _), (4, _), (5, _), (6, _), (19, _), (22, _)] rfl ⟨rfl, rfl, rfl, rfl, rfl, rfl, trivial⟩ ?_
        refine rw_s (qs_ldb (by first | (repeat (first | with_reducible exact .a | with_reducible apply Foc.s)); done | (repeat (first | exact .a | apply Foc.s))) Try.isAgg4 rfl rfl (by rfl)) rfl rfl ?_
        refine rw_run tab_ok 2 [(2, _), (4, _), (5, _), (6, _), (25, _)] rfl ⟨rfl, rfl, rfl, rfl, rfl, trivial⟩ ?_
        refine rw_end ?_
        refine cw_cond rfl (fun h2 => ?_) (fun h2 => ?_)
        · have hub : ub = false := by simpa using h2
          obtain ⟨q, u1, ub1, e8⟩ : ∃ p s1' b1', funcR (u, ub) = (p, s1', b1') := ⟨_, _, _, rfl⟩
          have d8 := funcR_bd e8
          have hnx : funcsR (k - 1).toNat (u1, ub1) (acc ++ [q]) = (F, s2, b2) := by
            rw [show k.toNat = (k - 1).toNat + 1 from by omega, funcsR, hub] at hj1
            rw [← hub] at hj1
            rw [e8, hub] at hj1
            simpa using hj1
          refine cw_skip (xw_then ?_)
          refine cw_seq ?_
          refine cw_block ?_
          refine cw_drawq (.still 0 (.still 1 (.still 2 (.pick 3 (.pick 4 (.pick 5 (.still 6 (.pick 7 .done .stop)) .stop) .stop) .stop)))) [7] rfl (by kernel_rfl) (by kernel_rfl) [RBox g3 [.slice Aj acc.length cj] 24] ?_
          refine ro_run tab_ok (by first | exact Has.rfl | exact Has.s Has.rfl | exact Has.m (by repeat (first | exact .z | refine .s (by first | (repeat (first | with_reducible exact .a | with_reducible apply Foc.s)); done | (repeat (first | exact .a | apply Foc.s))) ?_))) 1 [(2, _), (4, _), (5, _), (6, _), (28, _)] rfl ⟨rfl, rfl, rfl, rfl, rfl, trivial⟩ ?_
          refine ro_s2 rfl (qs_ldb (by first | (repeat (first | with_reducible exact .a | with_reducible apply Foc.s)); done | (repeat (first | exact .a | apply Foc.s))) Try.isAgg22 rfl rfl (by rfl)) rfl rfl (by first | exact Has.rfl | exact Has.s Has.rfl | exact Has.m (by repeat (first | exact .z | refine .s (by first | (repeat (first | with_reducible exact .a | with_reducible apply Foc.s)); done | (repeat (first | exact .a | apply Foc.s))) ?_))) ?_
          refine ro_run tab_ok (by first | exact Has.rfl | exact Has.s Has.rfl | exact Has.m (by repeat (first | exact .z | refine .s (by first | (repeat (first | with_reducible exact .a | with_reducible apply Foc.s)); done | (repeat (first | exact .a | apply Foc.s))) ?_))) 1 [(2, _), (4, _), (5, _), (6, _), (29, _), (30, _)] rfl ⟨rfl, rfl, rfl, rfl, rfl, rfl, trivial⟩ ?_
          refine ro_op2 rfl (ot_call rfl rfl rfl Try.call39 (fun w hw => pfunc_eq g2 e8 (by omega) w (hw.msub (.s (by first | (repeat (first | with_reducible exact .a | with_reducible apply Foc.s)); done | (repeat (first | exact .a | apply Foc.s))) .r)))) rfl rfl (.inr fun _ => (by first | exact Has.rfl | exact Has.s Has.rfl | exact Has.m (by repeat (first | exact .z | refine .s (by first | (repeat (first | with_reducible exact .a | with_reducible apply Foc.s)); done | (repeat (first | exact .a | apply Foc.s))) ?_)))) (fun ⟨⟨A9, c9⟩, ⟨A10, c10⟩⟩ _ => ?_) ro_stop
          try dsimp only
          refine ro_op2 rfl (ot_bsl (cs := [_, _, _, _]) Try.underlying22 Try.sizeOf54 Try.zeroValue54 rfl rfl rfl rfl rfl) rfl rfl (.inr fun _ => (by first | exact Has.rfl | exact Has.s Has.rfl | exact Has.m (by repeat (first | exact .z | refine .s (by first | (repeat (first | with_reducible exact .a | with_reducible apply Foc.s)); done | (repeat (first | exact .a | apply Foc.s))) ?_)))) (fun g4 _ => ?_) ro_stop
          refine ro_op2 rfl (ot_app1 (α := MFunc) (bytes := 64) q [ROw (.slice A9 q.locals.length c9) q.locals, ROw (.slice A10 q.code.length c10) q.code] rfl Try.underlying22 (info_ex Try.inFunc) rfl (perm4 (by first | (repeat (first | with_reducible exact .a | with_reducible apply Foc.s)); done | (repeat (first | exact .a | apply Foc.s))) (by first | (repeat (first | with_reducible exact .a | with_reducible apply Foc.s)); done | (repeat (first | exact .a | apply Foc.s))) (by first | (repeat (first | with_reducible exact .a | with_reducible apply Foc.s)); done | (repeat (first | exact .a | apply Foc.s))) (by first | (repeat (first | with_reducible exact .a | with_reducible apply Foc.s)); done | (repeat (first | exact .a | apply Foc.s)))) (hel_fn d8.2.1) (by omega) (by omega) rfl rfl rfl) rfl rfl (.inr fun _ => (by first | exact Has.rfl | exact Has.s Has.rfl | exact Has.m (by repeat (first | exact .z | refine .s (by first | (repeat (first | with_reducible exact .a | with_reducible apply Foc.s)); done | (repeat (first | exact .a | apply Foc.s))) ?_)))) (fun ⟨A5, c5⟩ _ => ?_) ro_stop
          try dsimp only
          refine ro_run tab_ok (by first | exact Has.rfl | exact Has.s Has.rfl | exact Has.m (by repeat (first | exact .z | refine .s (by first | (repeat (first | with_reducible exact .a | with_reducible apply Foc.s)); done | (repeat (first | exact .a | apply Foc.s))) ?_))) 1 [(2, _), (4, _), (5, _), (6, _), (33, _), (34, _)] rfl ⟨rfl, rfl, rfl, rfl, rfl, rfl, trivial⟩ ?_
          refine ro_op2 rfl (ot_stb _ (by first | (repeat (first | with_reducible exact .a | with_reducible apply Foc.s)); done | (repeat (first | exact .a | apply Foc.s))) Try.sizeOf22 rfl rfl rfl rfl rfl (by rfl) rfl (by rfl)) rfl rfl (.inl rfl) (fun _ _ => ?_) ro_stop
          refine ro_endx (xw_blkn (xw_then ?_))
          refine cw_region ?_
          refine rw_run tab_ok 1 [(2, _), (4, _), (5, _), (26, _)] rfl ⟨rfl, rfl, rfl, rfl, trivial⟩ ?_
          refine rw_s (qs_sub rfl rfl rfl (by omega)) rfl rfl ?_
          refine rw_run tab_ok 1 [(2, _), (4, _), (5, _), (6, _)] rfl ⟨rfl, rfl, rfl, rfl, trivial⟩ ?_
          refine rw_round (k - 1, u1, ub1, acc ++ [q], A5, c5) (⟨⟨hnx, by show u1.length ≤ _; omega⟩, ⟨by show k - 1 ≤ _; omega, by show (acc ++ [q]).length + (k - 1).toNat ≤ _; rw [List.length_append, List.length_singleton]; omega⟩⟩) (by show (k - 1).toNat < k.toNat; omega) ⟨rfl, rfl, rfl, rfl, trivial⟩ (by first | exact fun _ h => h | exact fun _ h => h.msub (by repeat (first | exact .z | refine .s (by first | (repeat (first | with_reducible exact .a | with_reducible apply Foc.s)); done | (repeat (first | exact .a | apply Foc.s))) ?_)))
        · have hub : ub = true := by simpa using h2
          have hx : funcsR k.toNat (u, ub) acc = (acc, u, ub) := by
            rw [show k.toNat = (k - 1).toNat + 1 from by omega, funcsR, hub]; rfl
          rw [hx] at hj1
          simp only [Prod.mk.injEq] at hj1
          obtain ⟨rfl, rfl, rfl⟩ := hj1
          refine cw_exit (xw_thenx (xw_thenx (xw_blk ?_)))
          refine xw_join (Aj, cj) (trivial) ⟨rfl, rfl, rfl, trivial⟩ (by first | exact fun _ h => h | exact fun _ h => h.msub (by repeat (first | exact .z | refine .s (by first | (repeat (first | with_reducible exact .a | with_reducible apply Foc.s)); done | (repeat (first | exact .a | apply Foc.s))) ?_)))
      · have h1 := of_decide_eq_false h1
        have hx : funcsR k.toNat (u, ub) acc = (acc, u, ub) := by
          rw [show k.toNat = 0 from by omega]; rfl
        rw [hx] at hj1
        simp only [Prod.mk.injEq] at hj1
        obtain ⟨rfl, rfl, rfl⟩ := hj1
        refine rw_run tab_ok 6 [(2, _), (4, _), (5, _), (6, _), (25, _)] rfl ⟨rfl, rfl, rfl, rfl, rfl, trivial⟩ ?_
        refine rw_end ?_
        refine cw_cond_f rfl ?_
        refine cw_exit (xw_thenx (xw_thenx (xw_blk ?_)))
        refine xw_join (Aj, cj) (trivial) ⟨rfl, rfl, rfl, trivial⟩ (by first | exact fun _ h => h | exact fun _ h => h.msub (by repeat (first | exact .z | refine .s (by first | (repeat (first | with_reducible exact .a | with_reducible apply Foc.s)); done | (repeat (first | exact .a | apply Foc.s))) ?_)))
    · rintro ⟨A3, c3⟩ _
      try dsimp only
      have key : decodeP s = if b2 = true ∨ s2 ≠ [] then ([], 1) else if checkP F ≠ 0 then ([], checkP F) else (F, 0) := by
        unfold decodeP
        rw [if_neg (by omega), hp]
      refine cw_seq ?_
      refine cw_seq ?_
      refine cw_region ?_
      refine rw_run tab_ok 3 [(2, _), (4, _), (5, _), (37, _)] rfl ⟨rfl, rfl, rfl, rfl, trivial⟩ ?_
      refine rw_s (qs_ldb (by first | (repeat (first | with_reducible exact .a | with_reducible apply Foc.s)); done | (repeat (first | exact .a | apply Foc.s))) Try.isAgg4 rfl rfl (by rfl)) rfl rfl ?_
      refine rw_run tab_ok 1 [(2, _), (4, _), (5, _), (39, _)] rfl ⟨rfl, rfl, rfl, rfl, trivial⟩ ?_
      refine rw_split (t := 39) rfl (fun h1 => ?_) (fun h1 => ?_)
      · have h1 : b2 = true := h1
        refine rw_run tab_ok 6 [(2, _), (5, _), (45, _)] rfl ⟨rfl, rfl, rfl, trivial⟩ ?_
        refine rw_end ?_
        refine cw_cond_t rfl ?_
        refine cw_seq ?_
        refine cw_region ?_
        refine rw_s (qs_bst (cs := [_]) plT24 Try.zeroValue24 rfl rfl (by rfl)) rfl rfl ?_
        refine rw_op (ot_stb _ (by first | (repeat (first | with_reducible exact .a | with_reducible apply Foc.s)); done | (repeat (first | exact .a | apply Foc.s))) Try.sizeOf24 rfl rfl rfl rfl rfl (by rfl) rfl (by rfl)) rfl rfl (fun _ _ => ?_)
        refine rw_run tab_ok 1 [(2, _), (3, _)] rfl ⟨rfl, rfl, trivial⟩ ?_
        refine rw_end ?_
        refine cw_ret (xw_thenr ?_)
        refine xw_ret2 Try.results11 (rv_box (cs := [_]) (by first | (repeat (first | with_reducible exact .a | with_reducible apply Foc.s)); done | (repeat (first | exact .a | apply Foc.s))) Try.isAgg24 Try.sizeOf24 rfl) (rv_tmp rfl) ?_
        intro w hw
        rw [key, if_pos (.inl h1)]
        exact ⟨_, rfl, nil_ret hw⟩
      · have h1 : b2 = false := h1
        refine rw_run tab_ok 3 [(2, _), (5, _), (39, _), (42, _)] rfl ⟨rfl, rfl, rfl, rfl, trivial⟩ ?_
        refine rw_s (qs_ldb (by first | (repeat (first | with_reducible exact .a | with_reducible apply Foc.s)); done | (repeat (first | exact .a | apply Foc.s))) Try.isAgg9 rfl rfl (by rfl)) rfl rfl ?_
        refine rw_s (qs_neS rfl rfl rfl) rfl rfl ?_
        refine rw_run tab_ok 1 [(2, _), (5, _), (45, _)] rfl ⟨rfl, rfl, rfl, trivial⟩ ?_
        refine rw_end ?_
        refine cw_condN rfl (fun h2 => ?_) (fun h2 => ?_)
        · refine cw_seq ?_
          refine cw_region ?_
          refine rw_s (qs_bst (cs := [_]) plT24 Try.zeroValue24 rfl rfl (by rfl)) rfl rfl ?_
          refine rw_op (ot_stb _ (by first | (repeat (first | with_reducible exact .a | with_reducible apply Foc.s)); done | (repeat (first | exact .a | apply Foc.s))) Try.sizeOf24 rfl rfl rfl rfl rfl (by rfl) rfl (by rfl)) rfl rfl (fun _ _ => ?_)
          refine rw_run tab_ok 1 [(2, _), (3, _)] rfl ⟨rfl, rfl, trivial⟩ ?_
          refine rw_end ?_
          refine cw_ret (xw_thenr ?_)
          refine xw_ret2 Try.results11 (rv_box (cs := [_]) (by first | (repeat (first | with_reducible exact .a | with_reducible apply Foc.s)); done | (repeat (first | exact .a | apply Foc.s))) Try.isAgg24 Try.sizeOf24 rfl) (rv_tmp rfl) ?_
          intro w hw
          rw [key, if_pos (.inr h2)]
          exact ⟨_, rfl, nil_ret hw⟩
        · have h12 : ¬ (b2 = true ∨ s2 ≠ []) := by rintro (h | h); (· rw [h1] at h; cases h); (· exact h h2)
          rw [if_neg h12] at key
          refine cw_skip (xw_then ?_)
          refine cw_seq ?_
          refine cw_seq ?_
          refine cw_region ?_
          refine rw_s (qs_ldbA (vs := [_]) (by first | (repeat (first | with_reducible exact .a | with_reducible apply Foc.s)); done | (repeat (first | exact .a | apply Foc.s))) Try.isAgg24 Try.sizeOf24 rfl rfl (by rfl) rfl) rfl rfl ?_
          refine rw_op (ot_c0 rfl rfl rfl Try.call16 (fun w hw => pcheck_any A3 c3 F w ((SF.own rfl (by first | (repeat (first | with_reducible exact .a | with_reducible apply Foc.s)); done | (repeat (first | exact .a | apply Foc.s)))).at_ hw))) rfl rfl (fun _ _ => ?_)
          refine rw_run tab_ok 1 [(2, _), (5, _), (7, _)] rfl ⟨rfl, rfl, rfl, trivial⟩ ?_
          refine rw_end ?_
          refine cw_seq ?_
          refine cw_region ?_
          refine rw_run tab_ok 2 [(2, _), (5, _), (7, _), (50, _)] rfl ⟨rfl, rfl, rfl, rfl, trivial⟩ ?_
          refine rw_end ?_
          refine cw_condN rfl (fun h3 => ?_) (fun h3 => ?_)
          · refine cw_seq ?_
            refine cw_region ?_
            refine rw_s (qs_bst (cs := [_]) plT24 Try.zeroValue24 rfl rfl (by rfl)) rfl rfl ?_
            refine rw_run tab_ok 1 [(2, _), (51, _), (52, _)] rfl ⟨rfl, rfl, rfl, trivial⟩ ?_
            refine rw_op (ot_stb _ (by first | (repeat (first | with_reducible exact .a | with_reducible apply Foc.s)); done | (repeat (first | exact .a | apply Foc.s))) Try.sizeOf24 rfl rfl rfl rfl rfl (by rfl) rfl (by rfl)) rfl rfl (fun _ _ => ?_)
            refine rw_run tab_ok 1 [(2, _), (3, _)] rfl ⟨rfl, rfl, trivial⟩ ?_
            refine rw_end ?_
            refine cw_ret (xw_thenr ?_)
            refine xw_ret2 Try.results11 (rv_box (cs := [_]) (by first | (repeat (first | with_reducible exact .a | with_reducible apply Foc.s)); done | (repeat (first | exact .a | apply Foc.s))) Try.isAgg24 Try.sizeOf24 rfl) (rv_tmp rfl) ?_
            intro w hw
            rw [key, if_pos h3]
            exact ⟨_, rfl, nil_ret hw⟩
          · refine cw_skip (xw_then ?_)
            refine cw_seq ?_
            refine cw_region ?_
            refine rw_s (qs_ldbA (vs := [_]) (by first | (repeat (first | with_reducible exact .a | with_reducible apply Foc.s)); done | (repeat (first | exact .a | apply Foc.s))) Try.isAgg24 Try.sizeOf24 rfl rfl (by rfl) rfl) rfl rfl ?_
            refine rw_op (ot_stb _ (by first | (repeat (first | with_reducible exact .a | with_reducible apply Foc.s)); done | (repeat (first | exact .a | apply Foc.s))) Try.sizeOf24 rfl rfl rfl rfl rfl (by rfl) rfl (by rfl)) rfl rfl (fun _ _ => ?_)
            refine rw_run tab_ok 1 [(2, _), (3, _)] rfl ⟨rfl, rfl, trivial⟩ ?_
            refine rw_end ?_
            refine cw_ret ?_
            refine xw_ret2 Try.results11 (rv_box (cs := [_]) (by first | (repeat (first | with_reducible exact .a | with_reducible apply Foc.s)); done | (repeat (first | exact .a | apply Foc.s))) Try.isAgg24 Try.sizeOf24 rfl) (rv_tmp rfl) ?_
            intro w hw
            rw [key, if_neg (by simpa using h3)]
            exact ⟨_, rfl, own_ret (hw.msub (by repeat (first | exact .z | refine .s (by first | (repeat (first | with_reducible exact .a | with_reducible apply Foc.s)); done | (repeat (first | exact .a | apply Foc.s))) ?_)))⟩
end Go.Proofs.Ytejpkcheimgdfaa

-- Pr12
/- Programs: the document's program of bytes. -/
namespace Go.Proofs.Ytejpkcheimgdfaa
open Go.RowKit

theorem oneR_nil {sh : Bool} : oneR ([], sh) = (0, [], true) := by
  cases sh <;> rfl
theorem oneR_cons {b : UInt8} {l : List UInt8} {sh : Bool} : oneR (b :: l, sh) = ((b.toNat : Int), l, sh) := by
  unfold oneR takeR cutB
  rw [if_neg (by simp only [List.length_cons]; omega)]
  simp
theorem drop_cons {s : List UInt8} {k : Nat} (hk : k < s.length) : s.drop k = s.getD k 0 :: s.drop (k + 1) := by
  rw [List.drop_eq_getElem_cons hk, List.getD_eq_getElem?_getD, List.getElem?_eq_getElem hk]
  rfl
set_option maxRecDepth 100000 in
theorem rone_eq {B : Nat} {w0 : World} {H : List Res} (ga gs gk : Nat) (s : List UInt8) (k : Nat) {s' : List UInt8} {sh sh' : Bool} {p : Int} (e : oneR (s.drop k, sh) = (p, s', sh')) (hk : k ≤ s.length) (hl : s.length ≤ 140737488355320) (w : World)
    (hw : Cw B w0 (RBox ga [.int .i64 (k : Int)] 3 :: RBox gs [.string ⟨s.toArray⟩] 9 :: RBox gk [.bool (!sh)] 4 :: H) w) :
    Calls Try.prog 44 #[.pointer (some ⟨ga, 0, none⟩), .pointer (some ⟨gs, 0, none⟩), .pointer (some ⟨gk, 0, none⟩)] w fun e w' => ∃ a : Nat, (s.drop a = s' ∧ a ≤ s.length) ∧ e = .returned (.int .i64 p) ∧
      Cw B w0 (RBox ga [.int .i64 (a : Int)] 3 :: RBox gs [.string ⟨s.toArray⟩] 9 :: RBox gk [.bool (!sh')] 4 :: H) w' := by
  refine enter_own Try.func44 rfl Try.ntmps44 rfl hw ?_
  refine cw_seq ?_
  refine cw_region ?_
  refine rw_run tab_ok 1 [(0, _), (1, _), (2, _)] rfl ⟨rfl, rfl, rfl, trivial⟩ ?_
  refine rw_end ?_
  refine cw_seq ?_
  refine cw_seq ?_
  refine cw_region ?_
  refine rw_s (qs_ldb (by first | (repeat (first | with_reducible exact .a | with_reducible apply Foc.s)); done | (repeat (first | exact .a | apply Foc.s))) Try.isAgg3 rfl rfl (by rfl)) rfl rfl ?_
  refine rw_s (qs_ldb (by first | (repeat (first | with_reducible exact .a | with_reducible apply Foc.s)); done | (repeat (first | exact .a | apply Foc.s))) Try.isAgg9 rfl rfl (by rfl)) rfl rfl ?_
  refine rw_s (qs_lenS Try.underlying9 rfl rfl) rfl rfl ?_
  refine rw_run tab_ok 1 [(0, _), (1, _), (2, _), (7, _)] rfl ⟨rfl, rfl, rfl, rfl, trivial⟩ ?_
  refine rw_end ?_
  refine cw_condD rfl (fun h => ?_) (fun h => ?_)
  · have hd : s.drop k = [] := List.drop_of_length_le (by omega)
    rw [hd, oneR_nil] at e
    simp only [Prod.mk.injEq] at e
    obtain ⟨rfl, rfl, rfl⟩ := e
    refine cw_seq ?_
    refine cw_region ?_
    refine rw_op (ot_stb _ (by first | (repeat (first | with_reducible exact .a | with_reducible apply Foc.s)); done | (repeat (first | exact .a | apply Foc.s))) Try.sizeOf4 rfl rfl rfl rfl rfl (by rfl) rfl (by rfl)) rfl rfl (fun _ _ => ?_)
    refine rw_end ?_
    refine cw_seq ?_
    refine cw_region ?_
    refine rw_run tab_ok 1 [(3, _)] rfl ⟨rfl, trivial⟩ ?_
    refine rw_end ?_
    refine cw_ret (xw_thenr ?_)
    refine xw_ret1 Try.results44 (rv_tmp rfl) ?_
    intro w hw
    exact ⟨k, ⟨hd, hk⟩, rfl, hw.msub (by repeat (first | exact .r | exact .z | refine .s (by first | (repeat (first | with_reducible exact .a | with_reducible apply Foc.s)); done | (repeat (first | exact .a | apply Foc.s))) ?_ | refine .d ?_))⟩
  · have hk2 : k < s.length := by omega
    rw [drop_cons hk2, oneR_cons] at e
    simp only [Prod.mk.injEq] at e
    obtain ⟨rfl, rfl, rfl⟩ := e
    refine cw_skip (xw_then ?_)
    refine cw_seq ?_
    refine cw_region ?_
    refine rw_s (qs_ldb (by first | (repeat (first | with_reducible exact .a | with_reducible apply Foc.s)); done | (repeat (first | exact .a | apply Foc.s))) Try.isAgg3 rfl rfl (by rfl)) rfl rfl ?_
    refine rw_s (qs_add rfl rfl rfl (by omega)) rfl rfl ?_
    refine rw_op (ot_stb _ (by first | (repeat (first | with_reducible exact .a | with_reducible apply Foc.s)); done | (repeat (first | exact .a | apply Foc.s))) Try.sizeOf3 rfl rfl rfl rfl rfl (by rfl) rfl (by rfl)) rfl rfl (fun _ _ => ?_)
    refine rw_end ?_
    refine cw_mem (H' := RBox ga [.int .i64 ((k + 1 : Nat) : Int)] 3 :: RBox gs [.string ⟨s.toArray⟩] 9 :: RBox gk [.bool (!sh)] 4 :: H) (fun w h => by rw [show ((k + 1 : Nat) : Int) = (k : Int) + 1 from by omega]; exact h.msub (by repeat (first | exact .r | exact .z | refine .s (by first | (repeat (first | with_reducible exact .a | with_reducible apply Foc.s)); done | (repeat (first | exact .a | apply Foc.s))) ?_ | refine .d ?_))) ?_
    refine cw_seq ?_
    refine cw_region ?_
    refine rw_s (qs_ldb (by first | (repeat (first | with_reducible exact .a | with_reducible apply Foc.s)); done | (repeat (first | exact .a | apply Foc.s))) Try.isAgg9 rfl rfl (by rfl)) rfl rfl ?_
    refine rw_s (qs_ldb (by first | (repeat (first | with_reducible exact .a | with_reducible apply Foc.s)); done | (repeat (first | exact .a | apply Foc.s))) Try.isAgg3 rfl rfl (by rfl)) rfl rfl ?_
    refine rw_s (qs_sub rfl rfl rfl (by omega)) rfl rfl ?_
    refine rw_as (t := 12) (v' := .int .i64 (k : Int)) rfl (by congr 1; omega) ?_
    refine rw_s (qs_idxS (k := k) Try.underlying9 hk2 rfl rfl rfl) rfl rfl ?_
    refine rw_s (qs_b2i Try.underlying5 Try.underlying3 rfl rfl) rfl rfl ?_
    refine rw_run tab_ok 1 [(3, _)] rfl ⟨rfl, trivial⟩ ?_
    refine rw_end ?_
    refine cw_ret ?_
    refine xw_ret1 Try.results44 (rv_tmp rfl) ?_
    intro w hw
    exact ⟨k + 1, ⟨rfl, hk2⟩, reti (by rw [List.getD_eq_getElem?_getD, List.getElem?_eq_getElem hk2]), hw.msub (by repeat (first | exact .r | exact .z | refine .s (by first | (repeat (first | with_reducible exact .a | with_reducible apply Foc.s)); done | (repeat (first | exact .a | apply Foc.s))) ?_ | refine .d ?_))⟩
theorem funcsR_short : ∀ (k : Nat) (s : List UInt8) (acc : List MFunc), funcsR k (s, true) acc = (acc, s, true)
  | 0, _, _ => rfl
  | _ + 1, _, _ => rfl
theorem takeR_no {s : List UInt8} {sh : Bool} {n : Int} (h : (s.length : Int) < n) : takeR (s, sh) n = ([], [], true) := by
  unfold takeR cutB
  rw [if_pos h]
  cases sh <;> rfl
theorem takeR_of {s : List UInt8} {sh : Bool} {n : Nat} (h : n ≤ s.length) : takeR (s, sh) (n : Int) = (s.take n, s.drop n, sh) := by
  unfold takeR cutB
  rw [if_neg (show ¬ ((s.length : Int) < (n : Int)) from by omega)]
  cases sh <;> rfl
theorem takeR_sh {s s' c : List UInt8} {sh' : Bool} {n : Int} (e : takeR (s, true) n = (c, s', sh')) : sh' = true := by
  unfold takeR at e
  simp only [Bool.true_or, Prod.mk.injEq] at e
  exact e.2.2.symm
set_option maxRecDepth 100000 in
set_option maxHeartbeats 8000000 in
theorem rprogramOf_any (s : List UInt8) (w : World) (hl : s.length ≤ 140737488355320) :
    Calls Try.prog 14 #[.string ⟨s.toArray⟩] w fun e w' => ∃ u, e = .returned (.tuple #[.agg #[u], .int .i64 (decodeP s).2]) ∧ Below w.heap.size w w' ∧ OwN w' w.heap.size u (decodeP s).1 := by
  refine enter Try.func14 rfl Try.ntmps14 rfl ?_
  refine cw_seq ?_
  refine cw_region ?_
  refine rw_op (ot_box rfl rfl rfl) rfl rfl (fun g1 _ => ?_)
  refine rw_op (ot_alloc Try.zeroValue24 rfl rfl) rfl rfl (fun g2 _ => ?_)
  refine rw_run tab_ok 1 [(1, _), (2, _)] rfl ⟨rfl, rfl, trivial⟩ ?_
  refine rw_end ?_
  refine cw_seq ?_
  refine cw_seq ?_
  refine cw_region ?_
  refine rw_s (qs_ldb (by first | (repeat (first | with_reducible exact .a | with_reducible apply Foc.s)); done | (repeat (first | exact .a | apply Foc.s))) Try.isAgg9 rfl rfl (by rfl)) rfl rfl ?_
  refine rw_s (qs_lenS Try.underlying9 rfl rfl) rfl rfl ?_
  refine rw_run tab_ok 1 [(1, _), (2, _), (19, _)] rfl ⟨rfl, rfl, rfl, trivial⟩ ?_
  refine rw_end ?_
  refine cw_condD rfl (fun h0 => ?_) (fun h0 => ?_)
  · have hd : decodeP s = ([], 2) := by unfold decodeP; rw [if_pos (by omega)]
    refine cw_seq ?_
    refine cw_region ?_
    refine rw_s (qs_bst (cs := [_]) plT24 Try.zeroValue24 rfl rfl (by rfl)) rfl rfl ?_
    refine rw_op (ot_stb _ (by first | (repeat (first | with_reducible exact .a | with_reducible apply Foc.s)); done | (repeat (first | exact .a | apply Foc.s))) Try.sizeOf24 rfl rfl rfl rfl rfl (by rfl) rfl (by rfl)) rfl rfl (fun _ _ => ?_)
    refine rw_run tab_ok 1 [(2, _), (3, _)] rfl ⟨rfl, rfl, trivial⟩ ?_
    refine rw_end ?_
    refine cw_ret (xw_thenr ?_)
    refine xw_ret2 Try.results14 (rv_box (cs := [_]) (by first | (repeat (first | with_reducible exact .a | with_reducible apply Foc.s)); done | (repeat (first | exact .a | apply Foc.s))) Try.isAgg24 Try.sizeOf24 rfl) (rv_tmp rfl) ?_
    intro w hw
    rw [hd]
    exact ⟨_, rfl, nil_ret hw⟩
  · obtain ⟨n, s1, b1, e1⟩ : ∃ p s1 b1, oneR (s, false) = (p, s1, b1) := ⟨_, _, _, rfl⟩
    obtain ⟨F, s2, b2, e2⟩ : ∃ p s1' b1', funcsR n.toNat (s1, b1) [] = (p, s1', b1') := ⟨_, _, _, rfl⟩
    have d1 := oneR_bd e1
    have d2 := funcsR_bd _ _ _ _ _ _ _ e2
    rw [List.length_nil] at d2
    have hp : parseP s = (F, s2, b2) := by unfold parseP; rw [e1]; exact e2
    have key : decodeP s = if b2 = true ∨ s2 ≠ [] then ([], 1) else if checkP F ≠ 0 then ([], checkP F) else (F, 0) := by
      unfold decodeP
      rw [if_neg (by omega), hp]
    refine cw_skip (xw_then ?_)
    refine cw_seq ?_
    refine cw_region ?_
    refine rw_op (ot_alloc Try.zeroValue3 rfl rfl) rfl rfl (fun g3 _ => ?_)
    refine rw_op (ot_alloc Try.zeroValue4 rfl rfl) rfl rfl (fun g4 _ => ?_)
    refine rw_op (ot_stb _ (by first | (repeat (first | with_reducible exact .a | with_reducible apply Foc.s)); done | (repeat (first | exact .a | apply Foc.s))) Try.sizeOf3 rfl rfl rfl rfl rfl (by rfl) rfl (by rfl)) rfl rfl (fun _ _ => ?_)
    refine rw_op (ot_stb _ (by first | (repeat (first | with_reducible exact .a | with_reducible apply Foc.s)); done | (repeat (first | exact .a | apply Foc.s))) Try.sizeOf4 rfl rfl rfl rfl rfl (by rfl) rfl (by rfl)) rfl rfl (fun _ _ => ?_)
    refine rw_end ?_
    refine cw_seq ?_
    refine cw_region ?_
    refine rw_run tab_ok 2 [(1, _), (2, _), (4, _), (5, _), (6, _)] rfl ⟨rfl, rfl, rfl, rfl, rfl, trivial⟩ ?_
    refine rw_end ?_
    refine cw_seq ?_
    refine cw_region ?_
    refine rw_op (ot_alloc Try.zeroValue24 rfl rfl) rfl rfl (fun g5 _ => ?_)
    refine rw_end ?_
    refine cw_seq ?_
    refine cw_region ?_
    refine rw_run tab_ok 1 [(1, _), (2, _), (4, _), (5, _), (6, _), (7, _), (22, _)] rfl ⟨rfl, rfl, rfl, rfl, rfl, rfl, rfl, trivial⟩ ?_
    refine rw_op (ot_callK rfl rfl rfl Try.call44 (fun w hw => rone_eq g3 g1 g4 s 0 (sh := false) e1 (Nat.zero_le _) hl w (hw.msub (.s (by first | (repeat (first | with_reducible exact .a | with_reducible apply Foc.s)); done | (repeat (first | exact .a | apply Foc.s))) (.s (by first | (repeat (first | with_reducible exact .a | with_reducible apply Foc.s)); done | (repeat (first | exact .a | apply Foc.s))) (.s (by first | (repeat (first | with_reducible exact .a | with_reducible apply Foc.s)); done | (repeat (first | exact .a | apply Foc.s))) .r)))))) rfl rfl (fun a1 ha1 => ?_)
    refine rw_run tab_ok 1 [(1, _), (2, _), (4, _), (5, _), (6, _), (7, _), (8, _)] rfl ⟨rfl, rfl, rfl, rfl, rfl, rfl, rfl, trivial⟩ ?_
    refine rw_end ?_
    refine cw_seq ?_
    refine cw_seq ?_
    refine cw_region ?_
    refine rw_run tab_ok 1 [(1, _), (2, _), (4, _), (5, _), (6, _), (7, _), (8, _), (9, _)] rfl ⟨rfl, rfl, rfl, rfl, rfl, rfl, rfl, rfl, trivial⟩ ?_
    refine rw_end ?_
    obtain ⟨ha1, ha1l⟩ : s.drop a1 = s1 ∧ a1 ≤ s.length := ha1
    refine cw_cutk (fun g : Nat × Option Addr × Nat => s.drop g.1 = s2 ∧ g.1 ≤ s.length) (fun g => [(1, .pointer (some ⟨g1, 0, none⟩)), (2, .pointer (some ⟨g2, 0, none⟩)), (4, .pointer (some ⟨g3, 0, none⟩)), (5, .pointer (some ⟨g4, 0, none⟩)), (7, .pointer (some ⟨g5, 0, none⟩))]) (fun g => [RBox g3 [.int .i64 (g.1 : Int)] 3, RBox g1 [.string ⟨s.toArray⟩] 9, RBox g4 [.bool (!b2)] 4, RBox g5 [.slice g.2.1 F.length g.2.2] 24, ROw (.slice g.2.1 F.length g.2.2) F, RBox g2 [.slice none 0 0] 24]) ?_ ?_
    · refine cw_mem (fun w h => Cw.nilO MFunc h) ?_
      refine cw_block (cw_loop (fun g : Nat × Nat × Bool × List MFunc × Option Addr × Nat => (funcsR (n.toNat - g.1) (s.drop g.2.1, g.2.2.1) g.2.2.2.1 = (F, s2, b2) ∧ g.2.1 ≤ s.length) ∧ (g.1 ≤ n.toNat ∧ g.2.2.2.1.length + (n.toNat - g.1) ≤ 255)) (fun g => n.toNat - g.1) (fun g => [(1, .pointer (some ⟨g1, 0, none⟩)), (2, .pointer (some ⟨g2, 0, none⟩)), (4, .pointer (some ⟨g3, 0, none⟩)), (5, .pointer (some ⟨g4, 0, none⟩)), (6, .func (.func 44) #[] #[.pointer (some ⟨g3, 0, none⟩), .pointer (some ⟨g1, 0, none⟩), .pointer (some ⟨g4, 0, none⟩)]), (7, .pointer (some ⟨g5, 0, none⟩)), (8, .int .i64 n), (9, .int .i64 (g.1 : Int))]) (fun g => [RBox g3 [.int .i64 (g.2.1 : Int)] 3, RBox g1 [.string ⟨s.toArray⟩] 9, RBox g4 [.bool (!g.2.2.1)] 4, RBox g5 [.slice g.2.2.2.2.1 g.2.2.2.1.length g.2.2.2.2.2] 24, ROw (.slice g.2.2.2.2.1 g.2.2.2.1.length g.2.2.2.2.2) g.2.2.2.1, RBox g2 [.slice none 0 0] 24]) (0, a1, b1, [], none, 0) (⟨⟨by show funcsR (n.toNat - 0) _ _ = _; rw [ha1]; exact e2, ha1l⟩, ⟨Nat.zero_le _, by show 0 + (n.toNat - 0) ≤ _; omega⟩⟩) ⟨rfl, rfl, rfl, rfl, rfl, rfl, rfl, rfl, trivial⟩ (by first | exact fun _ h => h | exact fun _ h => h.msub (by repeat (first | exact .z | refine .s (by first | (repeat (first | with_reducible exact .a | with_reducible apply Foc.s)); done | (repeat (first | exact .a | apply Foc.s))) ?_))) ?_)
      rintro ⟨i, at_, ub, acc, Aj, cj⟩ hj
      try dsimp only
      obtain ⟨⟨hj1, hj2⟩, hj3, hj4⟩ : (funcsR (n.toNat - i) (s.drop at_, ub) acc = (F, s2, b2) ∧ at_ ≤ s.length) ∧ (i ≤ n.toNat ∧ acc.length + (n.toNat - i) ≤ 255) := hj
      refine cw_seq ?_
      refine cw_seq ?_
      refine cw_region ?_
      refine rw_run tab_ok 4 [(1, _), (2, _), (4, _), (5, _), (6, _), (7, _), (8, _), (9, _), (27, _)] rfl ⟨rfl, rfl, rfl, rfl, rfl, rfl, rfl, rfl, rfl, trivial⟩ ?_
      refine rw_split (t := 27) rfl (fun h1 => ?_) (fun h1 => ?_)
      · have h1 := of_decide_eq_true h1
        refine rw_s (qs_ldb (by first | (repeat (first | with_reducible exact .a | with_reducible apply Foc.s)); done | (repeat (first | exact .a | apply Foc.s))) Try.isAgg4 rfl rfl (by rfl)) rfl rfl ?_
        refine rw_run tab_ok 1 [(1, _), (2, _), (4, _), (5, _), (6, _), (7, _), (8, _), (9, _), (29, _)] rfl ⟨rfl, rfl, rfl, rfl, rfl, rfl, rfl, rfl, rfl, trivial⟩ ?_
        refine rw_end ?_
        refine cw_cond rfl (fun h2 => ?_) (fun h2 => ?_)
        · have hub : ub = false := by simpa using h2
          subst hub
          obtain ⟨q, sq, uq, eq⟩ : ∃ p s1' b1', funcR (s.drop at_, false) = (p, s1', b1') := ⟨_, _, _, rfl⟩
          have hnx : funcsR (n.toNat - (i + 1)) (sq, uq) (acc ++ [q]) = (F, s2, b2) := by
            rw [show n.toNat - i = (n.toNat - (i + 1)) + 1 from by omega, funcsR, eq] at hj1
            simpa using hj1
          have hbad : uq = true → decodeP s = ([], 1) := by
            intro h
            rw [h, funcsR_short] at hnx
            simp only [Prod.mk.injEq] at hnx
            rw [key, if_pos (.inl hnx.2.2.symm)]
          obtain ⟨p, t1, u1, f1⟩ : ∃ p s1 b1, oneR (s.drop at_, false) = (p, s1, b1) := ⟨_, _, _, rfl⟩
          obtain ⟨m, t2, u2, f2⟩ : ∃ p s1' b1', oneR (t1, u1) = (p, s1', b1') := ⟨_, _, _, rfl⟩
          obtain ⟨L, t3, u3, f3⟩ : ∃ p s1' b1', localsR m.toNat (t2, u2) [] = (p, s1', b1') := ⟨_, _, _, rfl⟩
          obtain ⟨t, t4, u4, f4⟩ : ∃ p s1' b1', oneR (t3, u3) = (p, s1', b1') := ⟨_, _, _, rfl⟩
          obtain ⟨x, t5, u5, f5⟩ : ∃ p s1' b1', oneR (t4, u4) = (p, s1', b1') := ⟨_, _, _, rfl⟩
          obtain ⟨y, t6, u6, f6⟩ : ∃ p s1' b1', oneR (t5, u5) = (p, s1', b1') := ⟨_, _, _, rfl⟩
          obtain ⟨c, t7, u7, f7⟩ : ∃ p s1' b1', takeR (t6, u6) (x * 256 + y) = (p, s1', b1') := ⟨_, _, _, rfl⟩
          have hfun : funcR (s.drop at_, false) = (⟨p, L, t, (decodeOps c).1⟩, t7, u7 || !decide ((decodeOps c).2 = 0)) := by
            unfold funcR
            simp only [f1, f2, f3, f4, f5, f6, f7]
            simp
          rw [eq] at hfun
          simp only [Prod.mk.injEq] at hfun
          obtain ⟨hq1, hq2, hq3⟩ := hfun
          have k1 := oneR_bd f1
          have k2 := oneR_bd f2
          have k3 := localsR_bd _ _ _ _ _ _ _ f3
          have k4 := oneR_bd f4
          have k5 := oneR_bd f5
          have k6 := oneR_bd f6
          have k7 := takeR_bd f7
          rw [List.length_nil] at k3
          rw [List.length_drop] at k1
          refine cw_skip (xw_then ?_)
          refine cw_seq ?_
          refine cw_block ?_
          refine cw_seq ?_
          refine cw_region ?_
          refine rw_op (ot_alloc Try.zeroValue54 rfl rfl) rfl rfl (fun g6 _ => ?_)
          refine rw_end ?_
          refine cw_seq ?_
          refine cw_region ?_
          refine rw_run tab_ok 1 [(1, _), (2, _), (4, _), (5, _), (6, _), (7, _), (8, _), (9, _), (10, _), (32, _)] rfl ⟨rfl, rfl, rfl, rfl, rfl, rfl, rfl, rfl, rfl, rfl, trivial⟩ ?_
          refine rw_op (ot_callK rfl rfl rfl Try.call44 (fun w hw => rone_eq g3 g1 g4 s at_ f1 hj2 hl w (hw.msub (.s (by first | (repeat (first | with_reducible exact .a | with_reducible apply Foc.s)); done | (repeat (first | exact .a | apply Foc.s))) (.s (by first | (repeat (first | with_reducible exact .a | with_reducible apply Foc.s)); done | (repeat (first | exact .a | apply Foc.s))) (.s (by first | (repeat (first | with_reducible exact .a | with_reducible apply Foc.s)); done | (repeat (first | exact .a | apply Foc.s))) .r)))))) rfl rfl (fun c1 hc1 => ?_)
          refine rw_run tab_ok 1 [(1, _), (2, _), (4, _), (5, _), (6, _), (7, _), (8, _), (9, _), (10, _), (33, _), (34, _)] rfl ⟨rfl, rfl, rfl, rfl, rfl, rfl, rfl, rfl, rfl, rfl, rfl, trivial⟩ ?_
          refine rw_op (ot_stb _ (by first | (repeat (first | with_reducible exact .a | with_reducible apply Foc.s)); done | (repeat (first | exact .a | apply Foc.s))) Try.sizeOf3 rfl rfl rfl rfl rfl (by rfl) rfl (by rfl)) rfl rfl (fun _ _ => ?_)
          refine rw_end ?_
          refine cw_seq ?_
          refine cw_region ?_
          refine rw_run tab_ok 1 [(1, _), (2, _), (4, _), (5, _), (6, _), (7, _), (8, _), (9, _), (10, _), (35, _)] rfl ⟨rfl, rfl, rfl, rfl, rfl, rfl, rfl, rfl, rfl, rfl, trivial⟩ ?_
          obtain ⟨hc1, hc1l⟩ : s.drop c1 = t1 ∧ c1 ≤ s.length := hc1
          rw [← hc1] at f2
          refine rw_op (ot_callK rfl rfl rfl Try.call44 (fun w hw => rone_eq g3 g1 g4 s c1 f2 hc1l hl w (hw.msub (.s (by first | (repeat (first | with_reducible exact .a | with_reducible apply Foc.s)); done | (repeat (first | exact .a | apply Foc.s))) (.s (by first | (repeat (first | with_reducible exact .a | with_reducible apply Foc.s)); done | (repeat (first | exact .a | apply Foc.s))) (.s (by first | (repeat (first | with_reducible exact .a | with_reducible apply Foc.s)); done | (repeat (first | exact .a | apply Foc.s))) .r)))))) rfl rfl (fun c2 hc2 => ?_)
          refine rw_run tab_ok 1 [(1, _), (2, _), (4, _), (5, _), (6, _), (7, _), (8, _), (9, _), (10, _), (11, _)] rfl ⟨rfl, rfl, rfl, rfl, rfl, rfl, rfl, rfl, rfl, rfl, trivial⟩ ?_
          refine rw_end ?_
          refine cw_seq ?_
          refine cw_seq ?_
          refine cw_region ?_
          refine rw_run tab_ok 1 [(1, _), (2, _), (4, _), (5, _), (6, _), (7, _), (8, _), (9, _), (10, _), (11, _), (12, _)] rfl ⟨rfl, rfl, rfl, rfl, rfl, rfl, rfl, rfl, rfl, rfl, rfl, trivial⟩ ?_
          refine rw_end ?_
          obtain ⟨hc2, hc2l⟩ : s.drop c2 = t2 ∧ c2 ≤ s.length := hc2
          rw [← hc2] at f3
          refine cw_cutk (fun g : Nat × Option Addr × Nat => s.drop g.1 = t3 ∧ g.1 ≤ s.length) (fun g => [(1, .pointer (some ⟨g1, 0, none⟩)), (2, .pointer (some ⟨g2, 0, none⟩)), (4, .pointer (some ⟨g3, 0, none⟩)), (5, .pointer (some ⟨g4, 0, none⟩)), (6, .func (.func 44) #[] #[.pointer (some ⟨g3, 0, none⟩), .pointer (some ⟨g1, 0, none⟩), .pointer (some ⟨g4, 0, none⟩)]), (7, .pointer (some ⟨g5, 0, none⟩)), (8, .int .i64 n), (9, .int .i64 (i : Int)), (10, .pointer (some ⟨g6, 0, none⟩))]) (fun g => [RBox g3 [.int .i64 (g.1 : Int)] 3, RBox g1 [.string ⟨s.toArray⟩] 9, RBox g4 [.bool (!u3)] 4, RBox g5 [.slice Aj acc.length cj] 24, ROw (.slice Aj acc.length cj) acc, RBox g2 [.slice none 0 0] 24, RBox g6 [.int .i64 p, .slice g.2.1 L.length g.2.2, .int .i64 0, .slice none 0 0] 54, ROw (.slice g.2.1 L.length g.2.2) L]) ?_ ?_
          · refine cw_mem (fun w h => Cw.nilO Int h) ?_
            refine cw_block (cw_loop (fun g : Nat × Nat × Bool × List Int × Option Addr × Nat => (localsR (m.toNat - g.1) (s.drop g.2.1, g.2.2.1) g.2.2.2.1 = (L, t3, u3) ∧ g.2.1 ≤ s.length) ∧ (g.1 ≤ m.toNat ∧ g.2.2.2.1.length + (m.toNat - g.1) ≤ 255)) (fun g => m.toNat - g.1) (fun g => [(1, .pointer (some ⟨g1, 0, none⟩)), (2, .pointer (some ⟨g2, 0, none⟩)), (4, .pointer (some ⟨g3, 0, none⟩)), (5, .pointer (some ⟨g4, 0, none⟩)), (6, .func (.func 44) #[] #[.pointer (some ⟨g3, 0, none⟩), .pointer (some ⟨g1, 0, none⟩), .pointer (some ⟨g4, 0, none⟩)]), (7, .pointer (some ⟨g5, 0, none⟩)), (8, .int .i64 n), (9, .int .i64 (i : Int)), (10, .pointer (some ⟨g6, 0, none⟩)), (11, .int .i64 m), (12, .int .i64 (g.1 : Int))]) (fun g => [RBox g3 [.int .i64 (g.2.1 : Int)] 3, RBox g1 [.string ⟨s.toArray⟩] 9, RBox g4 [.bool (!g.2.2.1)] 4, RBox g5 [.slice Aj acc.length cj] 24, ROw (.slice Aj acc.length cj) acc, RBox g2 [.slice none 0 0] 24, RBox g6 [.int .i64 p, .slice g.2.2.2.2.1 g.2.2.2.1.length g.2.2.2.2.2, .int .i64 0, .slice none 0 0] 54, ROw (.slice g.2.2.2.2.1 g.2.2.2.1.length g.2.2.2.2.2) g.2.2.2.1]) (0, c2, u2, [], none, 0) (⟨⟨by show localsR (m.toNat - 0) _ _ = _; exact f3, hc2l⟩, ⟨Nat.zero_le _, by show 0 + (m.toNat - 0) ≤ _; omega⟩⟩) ⟨rfl, rfl, rfl, rfl, rfl, rfl, rfl, rfl, rfl, rfl, rfl, trivial⟩ (by first | exact fun _ h => h | exact fun _ h => h.msub (by repeat (first | exact .z | refine .s (by first | (repeat (first | with_reducible exact .a | with_reducible apply Foc.s)); done | (repeat (first | exact .a | apply Foc.s))) ?_))) ?_)
            rintro ⟨j, bt, vb, ac2, Al, cl⟩ hl'
            try dsimp only
            obtain ⟨⟨hl1, hl2⟩, hl3, hl4⟩ : (localsR (m.toNat - j) (s.drop bt, vb) ac2 = (L, t3, u3) ∧ bt ≤ s.length) ∧ (j ≤ m.toNat ∧ ac2.length + (m.toNat - j) ≤ 255) := hl'
            refine cw_seq ?_
            refine cw_seq ?_
            refine cw_region ?_
            refine rw_run tab_ok 4 [(1, _), (2, _), (4, _), (5, _), (6, _), (7, _), (8, _), (9, _), (10, _), (11, _), (12, _), (40, _)] rfl ⟨rfl, rfl, rfl, rfl, rfl, rfl, rfl, rfl, rfl, rfl, rfl, rfl, trivial⟩ ?_
            refine rw_split (t := 40) rfl (fun h3 => ?_) (fun h3 => ?_)
            · have h3 := of_decide_eq_true h3
              refine rw_s (qs_ldb (by first | (repeat (first | with_reducible exact .a | with_reducible apply Foc.s)); done | (repeat (first | exact .a | apply Foc.s))) Try.isAgg4 rfl rfl (by rfl)) rfl rfl ?_
              refine rw_run tab_ok 1 [(1, _), (2, _), (4, _), (5, _), (6, _), (7, _), (8, _), (9, _), (10, _), (11, _), (12, _), (42, _)] rfl ⟨rfl, rfl, rfl, rfl, rfl, rfl, rfl, rfl, rfl, rfl, rfl, rfl, trivial⟩ ?_
              refine rw_end ?_
              refine cw_cond rfl (fun h4 => ?_) (fun h4 => ?_)
              · have hvb : vb = false := by simpa using h4
                subst hvb
                obtain ⟨z, tz, uz, fz⟩ : ∃ p s1' b1', oneR (s.drop bt, false) = (p, s1', b1') := ⟨_, _, _, rfl⟩
                have dz := oneR_bd fz
                have hnl : localsR (m.toNat - (j + 1)) (tz, uz) (ac2 ++ [z]) = (L, t3, u3) := by
                  rw [show m.toNat - j = (m.toNat - (j + 1)) + 1 from by omega, localsR, fz] at hl1
                  simpa using hl1
                refine cw_skip (xw_then ?_)
                refine cw_seq ?_
                refine cw_block ?_
                refine cw_drawq (.still 0 (.still 1 (.still 2 (.pick 3 (.pick 4 (.pick 5 (.still 6 (.pick 7 .done .stop)) .stop) .stop) .stop)))) [7] rfl (by kernel_rfl) (by kernel_rfl) [RBox g6 [.int .i64 p, .slice Al ac2.length cl, .int .i64 0, .slice none 0 0] 54] ?_
                refine ro_run tab_ok (by first | exact Has.rfl | exact Has.s Has.rfl | exact Has.m (by repeat (first | exact .z | refine .s (by first | (repeat (first | with_reducible exact .a | with_reducible apply Foc.s)); done | (repeat (first | exact .a | apply Foc.s))) ?_))) 1 [(1, _), (2, _), (4, _), (5, _), (6, _), (7, _), (8, _), (9, _), (10, _), (11, _), (12, _), (45, _)] rfl ⟨rfl, rfl, rfl, rfl, rfl, rfl, rfl, rfl, rfl, rfl, rfl, rfl, trivial⟩ ?_
                refine ro_s2 rfl (qs_ldb (by first | (repeat (first | with_reducible exact .a | with_reducible apply Foc.s)); done | (repeat (first | exact .a | apply Foc.s))) Try.isAgg35 rfl rfl (by rfl)) rfl rfl (by first | exact Has.rfl | exact Has.s Has.rfl | exact Has.m (by repeat (first | exact .z | refine .s (by first | (repeat (first | with_reducible exact .a | with_reducible apply Foc.s)); done | (repeat (first | exact .a | apply Foc.s))) ?_))) ?_
                refine ro_run tab_ok (by first | exact Has.rfl | exact Has.s Has.rfl | exact Has.m (by repeat (first | exact .z | refine .s (by first | (repeat (first | with_reducible exact .a | with_reducible apply Foc.s)); done | (repeat (first | exact .a | apply Foc.s))) ?_))) 1 [(1, _), (2, _), (4, _), (5, _), (6, _), (7, _), (8, _), (9, _), (10, _), (11, _), (12, _), (46, _), (47, _)] rfl ⟨rfl, rfl, rfl, rfl, rfl, rfl, rfl, rfl, rfl, rfl, rfl, rfl, rfl, trivial⟩ ?_
                refine ro_op2 rfl (ot_callK rfl rfl rfl Try.call44 (fun w hw => rone_eq g3 g1 g4 s bt fz hl2 hl w (hw.msub (.s (by first | (repeat (first | with_reducible exact .a | with_reducible apply Foc.s)); done | (repeat (first | exact .a | apply Foc.s))) (.s (by first | (repeat (first | with_reducible exact .a | with_reducible apply Foc.s)); done | (repeat (first | exact .a | apply Foc.s))) (.s (by first | (repeat (first | with_reducible exact .a | with_reducible apply Foc.s)); done | (repeat (first | exact .a | apply Foc.s))) .r)))))) rfl rfl (.inr fun _ => (by first | exact Has.rfl | exact Has.s Has.rfl | exact Has.m (by repeat (first | exact .z | refine .s (by first | (repeat (first | with_reducible exact .a | with_reducible apply Foc.s)); done | (repeat (first | exact .a | apply Foc.s))) ?_)))) (fun cz hcz => ?_) ro_stop
                refine ro_op2 rfl (ot_bsl (cs := [_]) Try.underlying35 Try.sizeOf3 Try.zeroValue3 rfl rfl rfl rfl rfl) rfl rfl (.inr fun _ => (by first | exact Has.rfl | exact Has.s Has.rfl | exact Has.m (by repeat (first | exact .z | refine .s (by first | (repeat (first | with_reducible exact .a | with_reducible apply Foc.s)); done | (repeat (first | exact .a | apply Foc.s))) ?_)))) (fun g7 _ => ?_) ro_stop
                obtain ⟨hcz, hczl⟩ : s.drop cz = tz ∧ cz ≤ s.length := hcz
                refine ro_op2 rfl (ot_app1 (α := Int) (bytes := 8) z [] rfl Try.underlying35 (info_ex Try.inI) rfl (perm2 (by first | (repeat (first | with_reducible exact .a | with_reducible apply Foc.s)); done | (repeat (first | exact .a | apply Foc.s))) (by first | (repeat (first | with_reducible exact .a | with_reducible apply Foc.s)); done | (repeat (first | exact .a | apply Foc.s)))) (hel_flat ⟨by omega, by omega⟩) (by omega) (by omega) rfl rfl rfl) rfl rfl (.inr fun _ => (by first | exact Has.rfl | exact Has.s Has.rfl | exact Has.m (by repeat (first | exact .z | refine .s (by first | (repeat (first | with_reducible exact .a | with_reducible apply Foc.s)); done | (repeat (first | exact .a | apply Foc.s))) ?_)))) (fun ⟨A5, c5⟩ _ => ?_) ro_stop
                try dsimp only
                refine ro_run tab_ok (by first | exact Has.rfl | exact Has.s Has.rfl | exact Has.m (by repeat (first | exact .z | refine .s (by first | (repeat (first | with_reducible exact .a | with_reducible apply Foc.s)); done | (repeat (first | exact .a | apply Foc.s))) ?_))) 1 [(1, _), (2, _), (4, _), (5, _), (6, _), (7, _), (8, _), (9, _), (10, _), (11, _), (12, _), (50, _), (51, _)] rfl ⟨rfl, rfl, rfl, rfl, rfl, rfl, rfl, rfl, rfl, rfl, rfl, rfl, rfl, trivial⟩ ?_
                refine ro_op2 rfl (ot_stb _ (by first | (repeat (first | with_reducible exact .a | with_reducible apply Foc.s)); done | (repeat (first | exact .a | apply Foc.s))) Try.sizeOf35 rfl rfl rfl rfl rfl (by rfl) rfl (by rfl)) rfl rfl (.inl rfl) (fun _ _ => ?_) ro_stop
                refine ro_endx (xw_blkn (xw_then ?_))
                refine cw_region ?_
                refine rw_run tab_ok 1 [(1, _), (2, _), (4, _), (5, _), (6, _), (7, _), (8, _), (9, _), (10, _), (11, _), (43, _)] rfl ⟨rfl, rfl, rfl, rfl, rfl, rfl, rfl, rfl, rfl, rfl, rfl, trivial⟩ ?_
                refine rw_s (qs_add rfl rfl rfl (by omega)) rfl rfl ?_
                refine rw_run tab_ok 1 [(1, _), (2, _), (4, _), (5, _), (6, _), (7, _), (8, _), (9, _), (10, _), (11, _), (12, _)] rfl ⟨rfl, rfl, rfl, rfl, rfl, rfl, rfl, rfl, rfl, rfl, rfl, trivial⟩ ?_
                refine rw_round (j + 1, cz, uz, ac2 ++ [z], A5, c5) (⟨⟨by show localsR (m.toNat - (j + 1)) (s.drop cz, uz) _ = _; rw [hcz]; exact hnl, hczl⟩, ⟨by show j + 1 ≤ _; omega, by show (ac2 ++ [z]).length + (m.toNat - (j + 1)) ≤ _; rw [List.length_append, List.length_singleton]; omega⟩⟩) (by show m.toNat - (j + 1) < m.toNat - j; omega) ⟨rfl, rfl, rfl, rfl, rfl, rfl, rfl, rfl, rfl, rfl, rfl, trivial⟩ (by first | exact fun _ h => h | exact fun _ h => h.msub (by repeat (first | exact .z | refine .s (by first | (repeat (first | with_reducible exact .a | with_reducible apply Foc.s)); done | (repeat (first | exact .a | apply Foc.s))) ?_)))
              · have hvb : vb = true := by simpa using h4
                subst hvb
                have hx : localsR (m.toNat - j) (s.drop bt, true) ac2 = (ac2, s.drop bt, true) := by
                  rw [show m.toNat - j = (m.toNat - (j + 1)) + 1 from by omega, localsR]; rfl
                rw [hx] at hl1
                simp only [Prod.mk.injEq] at hl1
                obtain ⟨rfl, hl5, rfl⟩ := hl1
                refine cw_exit (xw_thenx (xw_thenx (xw_blk ?_)))
                refine xw_join (bt, Al, cl) (⟨hl5, hl2⟩) ⟨rfl, rfl, rfl, rfl, rfl, rfl, rfl, rfl, rfl, trivial⟩ (by first | exact fun _ h => h | exact fun _ h => h.msub (by repeat (first | exact .z | refine .s (by first | (repeat (first | with_reducible exact .a | with_reducible apply Foc.s)); done | (repeat (first | exact .a | apply Foc.s))) ?_)))
            · have h3 := of_decide_eq_false h3
              have hx : localsR (m.toNat - j) (s.drop bt, vb) ac2 = (ac2, s.drop bt, vb) := by
                rw [show m.toNat - j = 0 from by omega]; rfl
              rw [hx] at hl1
              simp only [Prod.mk.injEq] at hl1
              obtain ⟨rfl, hl5, rfl⟩ := hl1
              refine rw_run tab_ok 2 [(1, _), (2, _), (4, _), (5, _), (6, _), (7, _), (8, _), (9, _), (10, _), (11, _), (12, _), (42, _)] rfl ⟨rfl, rfl, rfl, rfl, rfl, rfl, rfl, rfl, rfl, rfl, rfl, rfl, trivial⟩ ?_
              refine rw_end ?_
              refine cw_cond_f rfl ?_
              refine cw_exit (xw_thenx (xw_thenx (xw_blk ?_)))
              refine xw_join (bt, Al, cl) (⟨hl5, hl2⟩) ⟨rfl, rfl, rfl, rfl, rfl, rfl, rfl, rfl, rfl, trivial⟩ (by first | exact fun _ h => h | exact fun _ h => h.msub (by repeat (first | exact .z | refine .s (by first | (repeat (first | with_reducible exact .a | with_reducible apply Foc.s)); done | (repeat (first | exact .a | apply Foc.s))) ?_)))
          · rintro ⟨c3, Al, cl⟩ hc3
            obtain ⟨hc3, hc3l⟩ : s.drop c3 = t3 ∧ c3 ≤ s.length := hc3
            try dsimp only
            rw [← hc3] at f4
            refine cw_seq ?_
            refine cw_region ?_
            refine rw_run tab_ok 1 [(1, _), (2, _), (4, _), (5, _), (6, _), (7, _), (8, _), (9, _), (10, _), (52, _)] rfl ⟨rfl, rfl, rfl, rfl, rfl, rfl, rfl, rfl, rfl, rfl, trivial⟩ ?_
            refine rw_op (ot_callK rfl rfl rfl Try.call44 (fun w hw => rone_eq g3 g1 g4 s c3 f4 hc3l hl w (hw.msub (.s (by first | (repeat (first | with_reducible exact .a | with_reducible apply Foc.s)); done | (repeat (first | exact .a | apply Foc.s))) (.s (by first | (repeat (first | with_reducible exact .a | with_reducible apply Foc.s)); done | (repeat (first | exact .a | apply Foc.s))) (.s (by first | (repeat (first | with_reducible exact .a | with_reducible apply Foc.s)); done | (repeat (first | exact .a | apply Foc.s))) .r)))))) rfl rfl (fun c4 hc4 => ?_)
            refine rw_run tab_ok 1 [(1, _), (2, _), (4, _), (5, _), (6, _), (7, _), (8, _), (9, _), (10, _), (53, _), (54, _)] rfl ⟨rfl, rfl, rfl, rfl, rfl, rfl, rfl, rfl, rfl, rfl, rfl, trivial⟩ ?_
            refine rw_op (ot_stb _ (by first | (repeat (first | with_reducible exact .a | with_reducible apply Foc.s)); done | (repeat (first | exact .a | apply Foc.s))) Try.sizeOf3 rfl rfl rfl rfl rfl (by rfl) rfl (by rfl)) rfl rfl (fun _ _ => ?_)
            refine rw_end ?_
            refine cw_seq ?_
            refine cw_region ?_
            refine rw_run tab_ok 1 [(1, _), (2, _), (4, _), (5, _), (6, _), (7, _), (8, _), (9, _), (10, _), (55, _)] rfl ⟨rfl, rfl, rfl, rfl, rfl, rfl, rfl, rfl, rfl, rfl, trivial⟩ ?_
            obtain ⟨hc4, hc4l⟩ : s.drop c4 = t4 ∧ c4 ≤ s.length := hc4
            rw [← hc4] at f5
            refine rw_op (ot_callK rfl rfl rfl Try.call44 (fun w hw => rone_eq g3 g1 g4 s c4 f5 hc4l hl w (hw.msub (.s (by first | (repeat (first | with_reducible exact .a | with_reducible apply Foc.s)); done | (repeat (first | exact .a | apply Foc.s))) (.s (by first | (repeat (first | with_reducible exact .a | with_reducible apply Foc.s)); done | (repeat (first | exact .a | apply Foc.s))) (.s (by first | (repeat (first | with_reducible exact .a | with_reducible apply Foc.s)); done | (repeat (first | exact .a | apply Foc.s))) .r)))))) rfl rfl (fun c5 hc5 => ?_)
            refine rw_s (qs_mul rfl rfl rfl (by omega)) rfl rfl ?_
            refine rw_run tab_ok 1 [(1, _), (2, _), (4, _), (5, _), (6, _), (7, _), (8, _), (9, _), (10, _), (13, _)] rfl ⟨rfl, rfl, rfl, rfl, rfl, rfl, rfl, rfl, rfl, rfl, trivial⟩ ?_
            refine rw_end ?_
            refine cw_seq ?_
            refine cw_region ?_
            refine rw_run tab_ok 2 [(1, _), (2, _), (4, _), (5, _), (6, _), (7, _), (8, _), (9, _), (10, _), (58, _), (59, _)] rfl ⟨rfl, rfl, rfl, rfl, rfl, rfl, rfl, rfl, rfl, rfl, rfl, trivial⟩ ?_
            obtain ⟨hc5, hc5l⟩ : s.drop c5 = t5 ∧ c5 ≤ s.length := hc5
            rw [← hc5] at f6
            refine rw_op (ot_callK rfl rfl rfl Try.call44 (fun w hw => rone_eq g3 g1 g4 s c5 f6 hc5l hl w (hw.msub (.s (by first | (repeat (first | with_reducible exact .a | with_reducible apply Foc.s)); done | (repeat (first | exact .a | apply Foc.s))) (.s (by first | (repeat (first | with_reducible exact .a | with_reducible apply Foc.s)); done | (repeat (first | exact .a | apply Foc.s))) (.s (by first | (repeat (first | with_reducible exact .a | with_reducible apply Foc.s)); done | (repeat (first | exact .a | apply Foc.s))) .r)))))) rfl rfl (fun c6 hc6 => ?_)
            refine rw_s (qs_add rfl rfl rfl (by omega)) rfl rfl ?_
            refine rw_run tab_ok 1 [(1, _), (2, _), (4, _), (5, _), (6, _), (7, _), (8, _), (9, _), (10, _), (13, _)] rfl ⟨rfl, rfl, rfl, rfl, rfl, rfl, rfl, rfl, rfl, rfl, trivial⟩ ?_
            refine rw_end ?_
            refine cw_seq ?_
            refine cw_seq ?_
            refine cw_region ?_
            refine rw_s (qs_ldb (by first | (repeat (first | with_reducible exact .a | with_reducible apply Foc.s)); done | (repeat (first | exact .a | apply Foc.s))) Try.isAgg4 rfl rfl (by rfl)) rfl rfl ?_
            refine rw_run tab_ok 2 [(1, _), (2, _), (4, _), (5, _), (6, _), (7, _), (8, _), (9, _), (10, _), (13, _), (64, _)] rfl ⟨rfl, rfl, rfl, rfl, rfl, rfl, rfl, rfl, rfl, rfl, rfl, trivial⟩ ?_
            obtain ⟨hc6, hc6l⟩ : s.drop c6 = t6 ∧ c6 ≤ s.length := hc6
            rw [← hc6] at f7
            refine rw_split (t := 64) rfl (fun h5 => ?_) (fun h5 => ?_)
            · have h5 : u6 = true := by simpa using h5
              subst h5
              refine rw_run tab_ok 7 [(1, _), (2, _), (4, _), (5, _), (6, _), (7, _), (8, _), (9, _), (10, _), (13, _), (71, _)] rfl ⟨rfl, rfl, rfl, rfl, rfl, rfl, rfl, rfl, rfl, rfl, rfl, trivial⟩ ?_
              refine rw_end ?_
              refine cw_cond_t rfl ?_
              refine cw_seq ?_
              refine cw_region ?_
              refine rw_s (qs_bst (cs := [_]) plT24 Try.zeroValue24 rfl rfl (by rfl)) rfl rfl ?_
              refine rw_op (ot_stb _ (by first | (repeat (first | with_reducible exact .a | with_reducible apply Foc.s)); done | (repeat (first | exact .a | apply Foc.s))) Try.sizeOf24 rfl rfl rfl rfl rfl (by rfl) rfl (by rfl)) rfl rfl (fun _ _ => ?_)
              refine rw_run tab_ok 1 [(2, _), (3, _)] rfl ⟨rfl, rfl, trivial⟩ ?_
              refine rw_end ?_
              refine cw_ret (xw_thenr (xw_blkr (xw_thenr (xw_thenr (xw_blkr (xw_thenr ?_))))))
              refine xw_ret2 Try.results14 (rv_box (cs := [_]) (by first | (repeat (first | with_reducible exact .a | with_reducible apply Foc.s)); done | (repeat (first | exact .a | apply Foc.s))) Try.isAgg24 Try.sizeOf24 rfl) (rv_tmp rfl) ?_
              intro w hw
              rw [hbad (by rw [hq3, takeR_sh f7]; rfl)]
              exact ⟨_, rfl, nil_ret hw⟩
            · have h5 : u6 = false := by simpa using h5
              subst h5
              refine rw_s (qs_ldb (by first | (repeat (first | with_reducible exact .a | with_reducible apply Foc.s)); done | (repeat (first | exact .a | apply Foc.s))) Try.isAgg9 rfl rfl (by rfl)) rfl rfl ?_
              refine rw_s (qs_lenS Try.underlying9 rfl rfl) rfl rfl ?_
              refine rw_s (qs_ldb (by first | (repeat (first | with_reducible exact .a | with_reducible apply Foc.s)); done | (repeat (first | exact .a | apply Foc.s))) Try.isAgg3 rfl rfl (by rfl)) rfl rfl ?_
              refine rw_s (qs_sub rfl rfl rfl (by omega)) rfl rfl ?_
              refine rw_run tab_ok 3 [(1, _), (2, _), (4, _), (5, _), (6, _), (7, _), (8, _), (9, _), (10, _), (13, _), (71, _)] rfl ⟨rfl, rfl, rfl, rfl, rfl, rfl, rfl, rfl, rfl, rfl, rfl, trivial⟩ ?_
              refine rw_end ?_
              refine cw_condD rfl (fun h6 => ?_) (fun h6 => ?_)
              · have hn := takeR_no (s := s.drop c6) (sh := false) (n := x * 256 + y) (by rw [List.length_drop]; omega)
                rw [hn] at f7
                simp only [Prod.mk.injEq] at f7
                refine cw_seq ?_
                refine cw_region ?_
                refine rw_s (qs_bst (cs := [_]) plT24 Try.zeroValue24 rfl rfl (by rfl)) rfl rfl ?_
                refine rw_op (ot_stb _ (by first | (repeat (first | with_reducible exact .a | with_reducible apply Foc.s)); done | (repeat (first | exact .a | apply Foc.s))) Try.sizeOf24 rfl rfl rfl rfl rfl (by rfl) rfl (by rfl)) rfl rfl (fun _ _ => ?_)
                refine rw_run tab_ok 1 [(2, _), (3, _)] rfl ⟨rfl, rfl, trivial⟩ ?_
                refine rw_end ?_
                refine cw_ret (xw_thenr (xw_blkr (xw_thenr (xw_thenr (xw_blkr (xw_thenr ?_))))))
                refine xw_ret2 Try.results14 (rv_box (cs := [_]) (by first | (repeat (first | with_reducible exact .a | with_reducible apply Foc.s)); done | (repeat (first | exact .a | apply Foc.s))) Try.isAgg24 Try.sizeOf24 rfl) (rv_tmp rfl) ?_
                intro w hw
                rw [hbad (by rw [hq3, ← f7.2.2]; rfl)]
                exact ⟨_, rfl, nil_ret hw⟩
              · obtain ⟨M, hM⟩ : ∃ M : Nat, x * 256 + y = (M : Int) := ⟨(x * 256 + y).toNat, by omega⟩
                have hle : M ≤ (s.drop c6).length := by rw [List.length_drop]; omega
                rw [hM, takeR_of hle] at f7
                simp only [Prod.mk.injEq] at f7
                obtain ⟨hcc, hcd, rfl⟩ := f7
                refine cw_skip (xw_then ?_)
                refine cw_seq ?_
                refine cw_region ?_
                refine rw_s (qs_ldb (by first | (repeat (first | with_reducible exact .a | with_reducible apply Foc.s)); done | (repeat (first | exact .a | apply Foc.s))) Try.isAgg9 rfl rfl (by rfl)) rfl rfl ?_
                refine rw_s (qs_ldb (by first | (repeat (first | with_reducible exact .a | with_reducible apply Foc.s)); done | (repeat (first | exact .a | apply Foc.s))) Try.isAgg3 rfl rfl (by rfl)) rfl rfl ?_
                refine rw_s (qs_ldb (by first | (repeat (first | with_reducible exact .a | with_reducible apply Foc.s)); done | (repeat (first | exact .a | apply Foc.s))) Try.isAgg3 rfl rfl (by rfl)) rfl rfl ?_
                refine rw_run tab_ok 1 [(1, _), (2, _), (4, _), (5, _), (6, _), (7, _), (8, _), (9, _), (10, _), (13, _), (74, _), (75, _), (76, _), (77, _)] rfl ⟨rfl, rfl, rfl, rfl, rfl, rfl, rfl, rfl, rfl, rfl, rfl, rfl, rfl, rfl, trivial⟩ ?_
                refine rw_s (qs_add rfl rfl rfl (by omega)) rfl rfl ?_
                refine rw_as (t := 78) (v' := .int .i64 ((c6 + M : Nat) : Int)) rfl (by congr 1; omega) ?_
                refine rw_s (qs_sliceS (lo := c6) (hi := c6 + M) Try.underlying9 ⟨by omega, by rw [List.length_drop] at hle; omega⟩ rfl rfl rfl rfl) rfl rfl ?_
                refine rw_as (t := 79) (v' := .string ⟨c.toArray⟩) rfl (by rw [show c6 + M - c6 = M from by omega, hcc]) ?_
                refine rw_op (ot_cO rfl rfl rfl Try.call45 (fun w hw => rcodeOf_own c w (by omega))) rfl rfl (fun ⟨A8, c8⟩ _ => ?_)
                try dsimp only
                refine rw_run tab_ok 5 [(1, _), (2, _), (4, _), (5, _), (6, _), (7, _), (8, _), (9, _), (10, _), (13, _), (14, _), (15, _)] rfl ⟨rfl, rfl, rfl, rfl, rfl, rfl, rfl, rfl, rfl, rfl, rfl, rfl, trivial⟩ ?_
                refine rw_end ?_
                refine cw_seq ?_
                refine cw_seq ?_
                refine cw_region ?_
                refine rw_run tab_ok 2 [(1, _), (2, _), (4, _), (5, _), (6, _), (7, _), (8, _), (9, _), (10, _), (13, _), (14, _), (84, _)] rfl ⟨rfl, rfl, rfl, rfl, rfl, rfl, rfl, rfl, rfl, rfl, rfl, rfl, trivial⟩ ?_
                refine rw_end ?_
                refine cw_condN rfl (fun h7 => ?_) (fun h7 => ?_)
                · refine cw_seq ?_
                  refine cw_region ?_
                  refine rw_s (qs_bst (cs := [_]) plT24 Try.zeroValue24 rfl rfl (by rfl)) rfl rfl ?_
                  refine rw_op (ot_stb _ (by first | (repeat (first | with_reducible exact .a | with_reducible apply Foc.s)); done | (repeat (first | exact .a | apply Foc.s))) Try.sizeOf24 rfl rfl rfl rfl rfl (by rfl) rfl (by rfl)) rfl rfl (fun _ _ => ?_)
                  refine rw_run tab_ok 1 [(2, _), (3, _)] rfl ⟨rfl, rfl, trivial⟩ ?_
                  refine rw_end ?_
                  refine cw_ret (xw_thenr (xw_blkr (xw_thenr (xw_thenr (xw_blkr (xw_thenr ?_))))))
                  refine xw_ret2 Try.results14 (rv_box (cs := [_]) (by first | (repeat (first | with_reducible exact .a | with_reducible apply Foc.s)); done | (repeat (first | exact .a | apply Foc.s))) Try.isAgg24 Try.sizeOf24 rfl) (rv_tmp rfl) ?_
                  intro w hw
                  rw [hbad (by rw [hq3, decide_eq_false h7]; rfl)]
                  exact ⟨_, rfl, nil_ret hw⟩
                · have h7 : (decodeOps c).2 = 0 := by simpa using h7
                  have huq : uq = false := by rw [hq3, decide_eq_true h7]; rfl
                  subst hq1
                  have hi64 : I64 p ∧ I64 t := ⟨⟨by omega, by omega⟩, ⟨by omega, by omega⟩⟩
                  refine cw_skip (xw_then ?_)
                  refine cw_seq ?_
                  refine cw_region ?_
                  refine rw_run tab_ok 2 [(1, _), (2, _), (4, _), (5, _), (6, _), (7, _), (8, _), (9, _), (10, _), (13, _), (86, _), (87, _)] rfl ⟨rfl, rfl, rfl, rfl, rfl, rfl, rfl, rfl, rfl, rfl, rfl, rfl, trivial⟩ ?_
                  refine rw_op (ot_stb _ (by first | (repeat (first | with_reducible exact .a | with_reducible apply Foc.s)); done | (repeat (first | exact .a | apply Foc.s))) Try.sizeOf52 rfl rfl rfl rfl rfl (by rfl) rfl (by rfl)) rfl rfl (fun _ _ => ?_)
                  refine rw_end ?_
                  refine cw_seq ?_
                  refine cw_region ?_
                  refine rw_s (qs_ldb (by first | (repeat (first | with_reducible exact .a | with_reducible apply Foc.s)); done | (repeat (first | exact .a | apply Foc.s))) Try.isAgg3 rfl rfl (by rfl)) rfl rfl ?_
                  refine rw_run tab_ok 1 [(1, _), (2, _), (4, _), (5, _), (6, _), (7, _), (8, _), (9, _), (10, _), (88, _), (89, _)] rfl ⟨rfl, rfl, rfl, rfl, rfl, rfl, rfl, rfl, rfl, rfl, rfl, trivial⟩ ?_
                  refine rw_s (qs_add rfl rfl rfl (by omega)) rfl rfl ?_
                  refine rw_op (ot_stb _ (by first | (repeat (first | with_reducible exact .a | with_reducible apply Foc.s)); done | (repeat (first | exact .a | apply Foc.s))) Try.sizeOf3 rfl rfl rfl rfl rfl (by rfl) rfl (by rfl)) rfl rfl (fun _ _ => ?_)
                  refine rw_end ?_
                  refine cw_region ?_
                  refine rw_run tab_ok 1 [(1, _), (2, _), (4, _), (5, _), (6, _), (7, _), (8, _), (9, _), (10, _), (91, _)] rfl ⟨rfl, rfl, rfl, rfl, rfl, rfl, rfl, rfl, rfl, rfl, trivial⟩ ?_
                  refine rw_s (qs_ldb (by first | (repeat (first | with_reducible exact .a | with_reducible apply Foc.s)); done | (repeat (first | exact .a | apply Foc.s))) Try.isAgg22 rfl rfl (by rfl)) rfl rfl ?_
                  refine rw_s (qs_ldbA (vs := [_, _, _, _]) (by first | (repeat (first | with_reducible exact .a | with_reducible apply Foc.s)); done | (repeat (first | exact .a | apply Foc.s))) Try.isAgg54 Try.sizeOf54 rfl rfl (by rfl) rfl) rfl rfl ?_
                  refine rw_op (ot_bsl (cs := [_, _, _, _]) Try.underlying22 Try.sizeOf54 Try.zeroValue54 rfl rfl rfl rfl rfl) rfl rfl (fun g8 _ => ?_)
                  refine rw_op (ot_app1 (α := MFunc) (bytes := 64) ⟨p, L, t, (decodeOps c).1⟩ [ROw (.slice Al L.length cl) L, ROw (.slice A8 (decodeOps c).1.length c8) (decodeOps c).1] rfl Try.underlying22 (info_ex Try.inFunc) rfl (perm4 (by first | (repeat (first | with_reducible exact .a | with_reducible apply Foc.s)); done | (repeat (first | exact .a | apply Foc.s))) (by first | (repeat (first | with_reducible exact .a | with_reducible apply Foc.s)); done | (repeat (first | exact .a | apply Foc.s))) (by first | (repeat (first | with_reducible exact .a | with_reducible apply Foc.s)); done | (repeat (first | exact .a | apply Foc.s))) (by first | (repeat (first | with_reducible exact .a | with_reducible apply Foc.s)); done | (repeat (first | exact .a | apply Foc.s)))) (hel_fn (f := ⟨p, L, t, (decodeOps c).1⟩) hi64) (by omega) (by omega) rfl rfl rfl) rfl rfl (fun ⟨A9, c9⟩ _ => ?_)
                  try dsimp only
                  refine rw_run tab_ok 1 [(1, _), (2, _), (4, _), (5, _), (6, _), (7, _), (8, _), (9, _), (95, _), (96, _)] rfl ⟨rfl, rfl, rfl, rfl, rfl, rfl, rfl, rfl, rfl, rfl, trivial⟩ ?_
                  refine rw_op (ot_stb _ (by first | (repeat (first | with_reducible exact .a | with_reducible apply Foc.s)); done | (repeat (first | exact .a | apply Foc.s))) Try.sizeOf22 rfl rfl rfl rfl rfl (by rfl) rfl (by rfl)) rfl rfl (fun _ _ => ?_)
                  refine rw_endx (xw_blkn (xw_then ?_))
                  refine cw_region ?_
                  refine rw_run tab_ok 1 [(1, _), (2, _), (4, _), (5, _), (6, _), (7, _), (8, _), (30, _)] rfl ⟨rfl, rfl, rfl, rfl, rfl, rfl, rfl, rfl, trivial⟩ ?_
                  refine rw_s (qs_add rfl rfl rfl (by omega)) rfl rfl ?_
                  refine rw_run tab_ok 1 [(1, _), (2, _), (4, _), (5, _), (6, _), (7, _), (8, _), (9, _)] rfl ⟨rfl, rfl, rfl, rfl, rfl, rfl, rfl, rfl, trivial⟩ ?_
                  refine rw_round (i + 1, c6 + M, uq, acc ++ [⟨p, L, t, (decodeOps c).1⟩], A9, c9) (⟨⟨by show funcsR (n.toNat - (i + 1)) (s.drop (c6 + M), uq) _ = _; rw [← List.drop_drop, hcd, ← hq2]; exact hnx, by show c6 + M ≤ _; rw [List.length_drop] at hle; omega⟩, ⟨by show i + 1 ≤ _; omega, by show (acc ++ [_]).length + (n.toNat - (i + 1)) ≤ _; rw [List.length_append, List.length_singleton]; omega⟩⟩) (by show n.toNat - (i + 1) < n.toNat - i; omega) ⟨rfl, rfl, rfl, rfl, rfl, rfl, rfl, rfl, trivial⟩ (fun w h => by rw [show (c6 : Int) + (256 * x + y) = ((c6 + M : Nat) : Int) from by omega] at h; rw [huq]; exact h.msub (by repeat (first | exact .z | refine .s (by first | (repeat (first | with_reducible exact .a | with_reducible apply Foc.s)); done | (repeat (first | exact .a | apply Foc.s))) ?_)))
        · have hub : ub = true := by simpa using h2
          subst hub
          rw [funcsR_short] at hj1
          simp only [Prod.mk.injEq] at hj1
          obtain ⟨rfl, hj5, rfl⟩ := hj1
          refine cw_exit (xw_thenx (xw_thenx (xw_blk ?_)))
          refine xw_join (at_, Aj, cj) (⟨hj5, hj2⟩) ⟨rfl, rfl, rfl, rfl, rfl, trivial⟩ (by first | exact fun _ h => h | exact fun _ h => h.msub (by repeat (first | exact .z | refine .s (by first | (repeat (first | with_reducible exact .a | with_reducible apply Foc.s)); done | (repeat (first | exact .a | apply Foc.s))) ?_)))
      · have h1 := of_decide_eq_false h1
        have hx : funcsR (n.toNat - i) (s.drop at_, ub) acc = (acc, s.drop at_, ub) := by
          rw [show n.toNat - i = 0 from by omega]; rfl
        rw [hx] at hj1
        simp only [Prod.mk.injEq] at hj1
        obtain ⟨rfl, hj5, rfl⟩ := hj1
        refine rw_run tab_ok 2 [(1, _), (2, _), (4, _), (5, _), (6, _), (7, _), (8, _), (9, _), (29, _)] rfl ⟨rfl, rfl, rfl, rfl, rfl, rfl, rfl, rfl, rfl, trivial⟩ ?_
        refine rw_end ?_
        refine cw_cond_f rfl ?_
        refine cw_exit (xw_thenx (xw_thenx (xw_blk ?_)))
        refine xw_join (at_, Aj, cj) (⟨hj5, hj2⟩) ⟨rfl, rfl, rfl, rfl, rfl, trivial⟩ (by first | exact fun _ h => h | exact fun _ h => h.msub (by repeat (first | exact .z | refine .s (by first | (repeat (first | with_reducible exact .a | with_reducible apply Foc.s)); done | (repeat (first | exact .a | apply Foc.s))) ?_)))
    · rintro ⟨a9, A3, c3⟩ ha9
      obtain ⟨ha9, ha9l⟩ : s.drop a9 = s2 ∧ a9 ≤ s.length := ha9
      try dsimp only
      have hne : s2 ≠ [] ↔ a9 < s.length := by
        rw [← ha9]
        constructor
        · intro h
          rcases Nat.lt_or_ge a9 s.length with h' | h'
          · exact h'
          · exact absurd (List.drop_of_length_le h') h
        · intro h e
          have := congrArg List.length e
          rw [List.length_drop, List.length_nil] at this
          omega
      refine cw_seq ?_
      refine cw_seq ?_
      refine cw_region ?_
      refine rw_s (qs_ldb (by first | (repeat (first | with_reducible exact .a | with_reducible apply Foc.s)); done | (repeat (first | exact .a | apply Foc.s))) Try.isAgg4 rfl rfl (by rfl)) rfl rfl ?_
      refine rw_run tab_ok 2 [(1, _), (2, _), (4, _), (7, _), (99, _)] rfl ⟨rfl, rfl, rfl, rfl, rfl, trivial⟩ ?_
      refine rw_split (t := 99) rfl (fun h1 => ?_) (fun h1 => ?_)
      · have h1 : b2 = true := by simpa using h1
        refine rw_run tab_ok 5 [(2, _), (7, _), (104, _)] rfl ⟨rfl, rfl, rfl, trivial⟩ ?_
        refine rw_end ?_
        refine cw_cond_t rfl ?_
        refine cw_seq ?_
        refine cw_region ?_
        refine rw_s (qs_bst (cs := [_]) plT24 Try.zeroValue24 rfl rfl (by rfl)) rfl rfl ?_
        refine rw_op (ot_stb _ (by first | (repeat (first | with_reducible exact .a | with_reducible apply Foc.s)); done | (repeat (first | exact .a | apply Foc.s))) Try.sizeOf24 rfl rfl rfl rfl rfl (by rfl) rfl (by rfl)) rfl rfl (fun _ _ => ?_)
        refine rw_run tab_ok 1 [(2, _), (3, _)] rfl ⟨rfl, rfl, trivial⟩ ?_
        refine rw_end ?_
        refine cw_ret (xw_thenr ?_)
        refine xw_ret2 Try.results14 (rv_box (cs := [_]) (by first | (repeat (first | with_reducible exact .a | with_reducible apply Foc.s)); done | (repeat (first | exact .a | apply Foc.s))) Try.isAgg24 Try.sizeOf24 rfl) (rv_tmp rfl) ?_
        intro w hw
        rw [key, if_pos (.inl h1)]
        exact ⟨_, rfl, nil_ret hw⟩
      · have h1 : b2 = false := by simpa using h1
        refine rw_s (qs_ldb (by first | (repeat (first | with_reducible exact .a | with_reducible apply Foc.s)); done | (repeat (first | exact .a | apply Foc.s))) Try.isAgg3 rfl rfl (by rfl)) rfl rfl ?_
        refine rw_s (qs_ldb (by first | (repeat (first | with_reducible exact .a | with_reducible apply Foc.s)); done | (repeat (first | exact .a | apply Foc.s))) Try.isAgg9 rfl rfl (by rfl)) rfl rfl ?_
        refine rw_s (qs_lenS Try.underlying9 rfl rfl) rfl rfl ?_
        refine rw_run tab_ok 2 [(2, _), (7, _), (104, _)] rfl ⟨rfl, rfl, rfl, trivial⟩ ?_
        refine rw_end ?_
        refine cw_condD rfl (fun h2 => ?_) (fun h2 => ?_)
        · refine cw_seq ?_
          refine cw_region ?_
          refine rw_s (qs_bst (cs := [_]) plT24 Try.zeroValue24 rfl rfl (by rfl)) rfl rfl ?_
          refine rw_op (ot_stb _ (by first | (repeat (first | with_reducible exact .a | with_reducible apply Foc.s)); done | (repeat (first | exact .a | apply Foc.s))) Try.sizeOf24 rfl rfl rfl rfl rfl (by rfl) rfl (by rfl)) rfl rfl (fun _ _ => ?_)
          refine rw_run tab_ok 1 [(2, _), (3, _)] rfl ⟨rfl, rfl, trivial⟩ ?_
          refine rw_end ?_
          refine cw_ret (xw_thenr ?_)
          refine xw_ret2 Try.results14 (rv_box (cs := [_]) (by first | (repeat (first | with_reducible exact .a | with_reducible apply Foc.s)); done | (repeat (first | exact .a | apply Foc.s))) Try.isAgg24 Try.sizeOf24 rfl) (rv_tmp rfl) ?_
          intro w hw
          rw [key, if_pos (.inr (hne.2 (by omega)))]
          exact ⟨_, rfl, nil_ret hw⟩
        · have h12 : ¬ (b2 = true ∨ s2 ≠ []) := by rintro (h | h); (· rw [h1] at h; cases h); (· have := hne.1 h; omega)
          rw [if_neg h12] at key
          refine cw_skip (xw_then ?_)
          refine cw_seq ?_
          refine cw_region ?_
          refine rw_s (qs_ldbA (vs := [_]) (by first | (repeat (first | with_reducible exact .a | with_reducible apply Foc.s)); done | (repeat (first | exact .a | apply Foc.s))) Try.isAgg24 Try.sizeOf24 rfl rfl (by rfl) rfl) rfl rfl ?_
          refine rw_op (ot_c0 rfl rfl rfl Try.call12 (fun w hw => rcheckP_any A3 c3 F w ((SF.own rfl (by first | (repeat (first | with_reducible exact .a | with_reducible apply Foc.s)); done | (repeat (first | exact .a | apply Foc.s)))).at_ hw))) rfl rfl (fun _ _ => ?_)
          refine rw_run tab_ok 1 [(2, _), (7, _), (16, _)] rfl ⟨rfl, rfl, rfl, trivial⟩ ?_
          refine rw_end ?_
          refine cw_seq ?_
          refine cw_seq ?_
          refine cw_region ?_
          refine rw_run tab_ok 2 [(2, _), (7, _), (16, _), (109, _)] rfl ⟨rfl, rfl, rfl, rfl, trivial⟩ ?_
          refine rw_end ?_
          refine cw_condN rfl (fun h3 => ?_) (fun h3 => ?_)
          · refine cw_seq ?_
            refine cw_region ?_
            refine rw_s (qs_bst (cs := [_]) plT24 Try.zeroValue24 rfl rfl (by rfl)) rfl rfl ?_
            refine rw_run tab_ok 1 [(2, _), (110, _), (111, _)] rfl ⟨rfl, rfl, rfl, trivial⟩ ?_
            refine rw_op (ot_stb _ (by first | (repeat (first | with_reducible exact .a | with_reducible apply Foc.s)); done | (repeat (first | exact .a | apply Foc.s))) Try.sizeOf24 rfl rfl rfl rfl rfl (by rfl) rfl (by rfl)) rfl rfl (fun _ _ => ?_)
            refine rw_run tab_ok 1 [(2, _), (3, _)] rfl ⟨rfl, rfl, trivial⟩ ?_
            refine rw_end ?_
            refine cw_ret (xw_thenr ?_)
            refine xw_ret2 Try.results14 (rv_box (cs := [_]) (by first | (repeat (first | with_reducible exact .a | with_reducible apply Foc.s)); done | (repeat (first | exact .a | apply Foc.s))) Try.isAgg24 Try.sizeOf24 rfl) (rv_tmp rfl) ?_
            intro w hw
            rw [key, if_pos h3]
            exact ⟨_, rfl, nil_ret hw⟩
          · have h3 : checkP F = 0 := by simpa using h3
            refine cw_skip (xw_then ?_)
            refine cw_seq ?_
            refine cw_region ?_
            refine rw_s (qs_ldbA (vs := [_]) (by first | (repeat (first | with_reducible exact .a | with_reducible apply Foc.s)); done | (repeat (first | exact .a | apply Foc.s))) Try.isAgg24 Try.sizeOf24 rfl rfl (by rfl) rfl) rfl rfl ?_
            refine rw_run tab_ok 1 [(2, _), (112, _), (113, _)] rfl ⟨rfl, rfl, rfl, trivial⟩ ?_
            refine rw_op (ot_stb _ (by first | (repeat (first | with_reducible exact .a | with_reducible apply Foc.s)); done | (repeat (first | exact .a | apply Foc.s))) Try.sizeOf24 rfl rfl rfl rfl rfl (by rfl) rfl (by rfl)) rfl rfl (fun _ _ => ?_)
            refine rw_run tab_ok 1 [(2, _), (3, _)] rfl ⟨rfl, rfl, trivial⟩ ?_
            refine rw_end ?_
            refine cw_ret ?_
            refine xw_ret2 Try.results14 (rv_box (cs := [_]) (by first | (repeat (first | with_reducible exact .a | with_reducible apply Foc.s)); done | (repeat (first | exact .a | apply Foc.s))) Try.isAgg24 Try.sizeOf24 rfl) (rv_tmp rfl) ?_
            intro w hw
            rw [key, if_neg (by simpa using h3), h3]
            exact ⟨_, rfl, own_ret (hw.msub (by repeat (first | exact .z | refine .s (by first | (repeat (first | with_reducible exact .a | with_reducible apply Foc.s)); done | (repeat (first | exact .a | apply Foc.s))) ?_)))⟩
end Go.Proofs.Ytejpkcheimgdfaa

-- W10
/- The walker: a row that was laid, of elements that have memory of their own, is one's own. -/
namespace Go.Proofs.Ytejpkcheimgdfaa
open Go.RowKit

/-- Pieces that make up elements. -/
def Els {α : Type} [Ow α] (Hel : List Res) (cs : List Value) (xs : List α) : Prop := ∀ w F, Hs w Hel F → ∃ Fs : Nat → Nat → Prop, OwE w Fs cs xs ∧ (∀ i j b, i < xs.length → j < xs.length → Fs i b → Fs j b → i = j) ∧ ∀ b, F b ↔ ∃ i, i < xs.length ∧ Fs i b
section
variable {α : Type} [Ow α] {Hel Hel2 : List Res} {cs cs2 : List Value} {x : α} {xs : List α}
theorem Els.nil_ : Els [] [] ([] : List α) := fun w F h => ⟨fun _ _ => False, OwE.nil_ _ _, by simp, fun b => by simp [h b]⟩
theorem Els.cons (h1 : ∀ w F, Hs w Hel F → Ow.own w F cs x) (h2 : Els Hel2 cs2 xs) : Els (Hel ++ Hel2) (cs ++ cs2) (x :: xs) := by
  intro w F h
  obtain ⟨F1, F2, k1, k2, kd, kF⟩ := h.split
  obtain ⟨Fs, e2, d2, f2⟩ := h2 w F2 k2
  have h1 := h1 w F1 k1
  have hl := Rep.len (Ow.rd_ h1)
  have e1 : OwE w (fun _ => F1) cs [x] := ⟨by simp [hl], fun j y hy => by
    cases j with
    | zero =>
      simp only [List.getElem?_cons_zero, Option.some.injEq] at hy
      subst hy
      simp only [Nat.zero_mul, List.drop_zero]
      rw [List.take_of_length_le (by omega)]
      exact h1
    | succ j => simp at hy⟩
  have := e1.append e2
  refine ⟨_, this, ?_, ?_⟩
  · intro i j b hi hj hib hjb
    simp only [List.length_cons, List.length_nil] at hi hj hib hjb
    by_cases i0 : i < 0 + 1 <;> by_cases j0 : j < 0 + 1
    · omega
    · simp only [i0, j0, if_true, if_false] at hib hjb
      exact (kd b hib ((f2 b).2 ⟨_, by omega, hjb⟩)).elim
    · simp only [i0, j0, if_true, if_false] at hib hjb
      exact (kd b hjb ((f2 b).2 ⟨_, by omega, hib⟩)).elim
    · simp only [i0, j0, if_false] at hib hjb
      have := d2 _ _ b (by omega) (by omega) hib hjb
      omega
  · intro b
    rw [kF b, f2 b]
    simp only [List.length_cons, List.length_nil]
    constructor
    · rintro (hb | ⟨i, hi, hb⟩)
      · exact ⟨0, by omega, by simpa using hb⟩
      · exact ⟨i + 1, by omega, by simpa using hb⟩
    · rintro ⟨i, hi, hb⟩
      by_cases i0 : i < 0 + 1
      · simp only [i0, if_true] at hb; exact .inl hb
      · simp only [i0, if_false] at hb; exact .inr ⟨_, by omega, hb⟩
end
section
variable {B : Nat} {w0 : World} {H : List Res}
/-- The row and what its elements have are one slice. -/
theorem row_els {α : Type} [Ow α] {g m : Nat} {cs : List Value} {Hel : List Res} {xs : List α} (hel : Els Hel cs xs) (hl : xs.length = m) (hm : m ≤ 140737488355328) {w : World} (h : Cw B w0 (RBox g cs (Ow.ty α) :: (Hel ++ H)) w) :
    Cw B w0 (ROw (.slice (some ⟨g, 0, none⟩) m m) xs :: H) w := by
  have h := Cw.pack (l1 := RBox g cs (Ow.ty α) :: Hel) (l2 := H) h
  refine h.upd fun F hF _ => ?_
  obtain ⟨F1, F2, ⟨hg, k1⟩, k2, kd, kF⟩ : ∃ F1 F2 : Nat → Prop, (w.heap[g]? = some (.cells cs.toArray (Ow.ty α) (0, 0)) ∧ ∀ b, F1 b ↔ b = g) ∧ Hs w Hel F2 ∧ (∀ b, F1 b → F2 b → False) ∧ ∀ b, F b ↔ F1 b ∨ F2 b := hF
  obtain ⟨Fs, e2, d2, f2⟩ := hel w F2 k2
  subst hl
  refine ⟨F, .inr ⟨g, 0, xs.length, cs.toArray, Fs, OwAt.of e2 hg (by simp) (Nat.le_refl _) (by unfold maxLen; omega) (by simp [e2.len]) hm (fun b => by rw [kF b, k1 b, f2 b]) (fun i hi hb => kd g ((k1 g).2 rfl) ((f2 g).2 ⟨i, hi, hb⟩)) d2⟩, rfl, rfl, rfl, Nat.le_refl _, fun _ _ _ => rfl, fun b hb => .inl hb⟩
end
section
variable {P : Program} {n : Nat} {B : Nat} {w0 : World} {Q : Exit → Act → World → Prop} {env : Env} {H : List Res} {x y z : Code}
theorem cw_cutk2 {γ : Type} (Φ : γ → Prop) (env' : γ → Env) (H' : γ → List Res) (h1 : CW P n B w0 x (Exit.then (y.wp P (Exit.then (Jn n B w0 Φ env' H') Q)) (Exit.then (Jn n B w0 Φ env' H') Q)) env H)
    (h2 : ∀ g, Φ g → CW P n B w0 z Q (env' g) (H' g)) : CW P n B w0 x (Exit.then (y.wp P (Exit.then (z.wp P Q) Q)) (Exit.then (z.wp P Q) Q)) env H := by
  have key : ∀ e a w, Exit.then (Jn n B w0 Φ env' H') Q e a w → Exit.then (z.wp P Q) Q e a w := by
    intro e a' w' h
    cases e
    case normal => obtain ⟨g, hg, hf', hw'⟩ := h; exact h2 g hg a' w' hf' hw'
    all_goals exact h
  intro a w hf hw
  refine wp_mono (h1 a w hf hw) ?_
  intro e a' w' h
  cases e
  case normal => exact wp_mono h key
  all_goals exact h
end
end Go.Proofs.Ytejpkcheimgdfaa

-- Pr13
/- Programs: the square; what must be in any case. -/
namespace Go.Proofs.Ytejpkcheimgdfaa
open Go.RowKit

def squareM : List MFunc := [⟨0, [], 0, [⟨21, 0⟩, ⟨12, 1⟩, ⟨20, 0⟩, ⟨10, 0⟩]⟩, ⟨1, [1], 1, [⟨8, 0⟩, ⟨3, 0⟩, ⟨7, 0⟩, ⟨13, 0⟩]⟩]
set_option maxRecDepth 100000 in
set_option maxHeartbeats 1000000 in
theorem square_any (w : World) : Calls Try.prog 46 #[] w fun e w' => ∃ g : Nat, True ∧ e = .returned (.agg #[.slice (some ⟨g, 0, none⟩) 2 2]) ∧ Cw w.heap.size w [ROw (.slice (some ⟨g, 0, none⟩) 2 2) squareM] w' := by
  refine enter Try.func46 rfl Try.ntmps46 rfl ?_
  refine cw_seq ?_
  refine cw_region ?_
  refine rw_op (ot_alloc Try.zeroValue24 rfl rfl) rfl rfl (fun g1 _ => ?_)
  refine rw_end ?_
  refine cw_seq ?_
  refine cw_region ?_
  refine rw_s (qs_bst (cs := [_, _]) plT61 Try.zeroValue61 rfl rfl (by rfl)) rfl rfl ?_
  refine rw_s (qs_bst (cs := [_, _]) plT61 Try.zeroValue61 rfl rfl (by rfl)) rfl rfl ?_
  refine rw_s (qs_bst (cs := [_, _]) plT61 Try.zeroValue61 rfl rfl (by rfl)) rfl rfl ?_
  refine rw_s (qs_bst (cs := [_, _]) plT61 Try.zeroValue61 rfl rfl (by rfl)) rfl rfl ?_
  refine rw_op (ot_bsl (cs := [_, _, _, _, _, _, _, _]) Try.underlying52 Try.sizeOf61 Try.zeroValue61 rfl rfl rfl rfl rfl) rfl rfl (fun g2 _ => ?_)
  refine rw_s (qs_bst (cs := [_, _, _, _]) plT54 Try.zeroValue54 rfl rfl (by rfl)) rfl rfl ?_
  refine rw_op (ot_bsl (cs := [_]) Try.underlying35 Try.sizeOf3 Try.zeroValue3 rfl rfl rfl rfl rfl) rfl rfl (fun g3 _ => ?_)
  refine rw_s (qs_bst (cs := [_, _]) plT61 Try.zeroValue61 rfl rfl (by rfl)) rfl rfl ?_
  refine rw_s (qs_bst (cs := [_, _]) plT61 Try.zeroValue61 rfl rfl (by rfl)) rfl rfl ?_
  refine rw_s (qs_bst (cs := [_, _]) plT61 Try.zeroValue61 rfl rfl (by rfl)) rfl rfl ?_
  refine rw_s (qs_bst (cs := [_, _]) plT61 Try.zeroValue61 rfl rfl (by rfl)) rfl rfl ?_
  refine rw_op (ot_bsl (cs := [_, _, _, _, _, _, _, _]) Try.underlying52 Try.sizeOf61 Try.zeroValue61 rfl rfl rfl rfl rfl) rfl rfl (fun g4 _ => ?_)
  refine rw_s (qs_bst (cs := [_, _, _, _]) plT54 Try.zeroValue54 rfl rfl (by rfl)) rfl rfl ?_
  refine rw_op (ot_bsl (cs := [_, _, _, _, _, _, _, _]) Try.underlying22 Try.sizeOf54 Try.zeroValue54 rfl rfl rfl rfl rfl) rfl rfl (fun g5 _ => ?_)
  refine rw_s (qs_bst (cs := [_]) plT24 Try.zeroValue24 rfl rfl (by rfl)) rfl rfl ?_
  refine rw_op (ot_stb _ (by first | (repeat (first | with_reducible exact .a | with_reducible apply Foc.s)); done | (repeat (first | exact .a | apply Foc.s))) Try.sizeOf24 rfl rfl rfl rfl rfl (by rfl) rfl (by rfl)) rfl rfl (fun _ _ => ?_)
  refine rw_end ?_
  refine cw_ret ?_
  refine xw_ret1 Try.results46 (rv_box (cs := [_]) (by first | (repeat (first | with_reducible exact .a | with_reducible apply Foc.s)); done | (repeat (first | exact .a | apply Foc.s))) Try.isAgg24 Try.sizeOf24 rfl) ?_
  intro w hw
  refine ⟨_, trivial, rfl, ?_⟩
  have h := row_ow (α := MOp) (m := 4) [⟨21, 0⟩, ⟨12, 1⟩, ⟨20, 0⟩, ⟨10, 0⟩] rfl (show ∀ o ∈ [(⟨21, 0⟩ : MOp), ⟨12, 1⟩, ⟨20, 0⟩, ⟨10, 0⟩], I64 o.c ∧ I64 o.a from by decide) rfl (by decide) (hw.msub (T := [RBox g2 _ _, RBox g3 _ _, RBox g4 _ _, RBox g5 _ _]) (by repeat (first | exact .z | refine .s (by first | (repeat (first | with_reducible exact .a | with_reducible apply Foc.s)); done | (repeat (first | exact .a | apply Foc.s))) ?_)))
  have h := row_ow (α := MOp) (m := 4) [⟨8, 0⟩, ⟨3, 0⟩, ⟨7, 0⟩, ⟨13, 0⟩] rfl (show ∀ o ∈ [(⟨8, 0⟩ : MOp), ⟨3, 0⟩, ⟨7, 0⟩, ⟨13, 0⟩], I64 o.c ∧ I64 o.a from by decide) rfl (by decide) (h.msub (T := [RBox g4 _ _, ROw (.slice (some ⟨g2, 0, none⟩) 4 4) _, RBox g3 _ _, RBox g5 _ _]) (by repeat (first | exact .z | refine .s (by first | (repeat (first | with_reducible exact .a | with_reducible apply Foc.s)); done | (repeat (first | exact .a | apply Foc.s))) ?_)))
  have h := row_ow (α := Int) (m := 1) [1] rfl (one_i64 (by decide)) rfl (by decide) (h.msub (T := [RBox g3 _ _, ROw (.slice (some ⟨g4, 0, none⟩) 4 4) _, ROw (.slice (some ⟨g2, 0, none⟩) 4 4) _, RBox g5 _ _]) (by repeat (first | exact .z | refine .s (by first | (repeat (first | with_reducible exact .a | with_reducible apply Foc.s)); done | (repeat (first | exact .a | apply Foc.s))) ?_)))
  have h := Cw.nilO Int h
  refine row_els (H := []) (xs := squareM) (Els.cons (Hel := [ROw (.slice none 0 0) ([] : List Int), ROw (.slice (some ⟨g2, 0, none⟩) 4 4) [(⟨21, 0⟩ : MOp), ⟨12, 1⟩, ⟨20, 0⟩, ⟨10, 0⟩]]) (cs := [_, _, _, _]) (hel_fn (f := ⟨0, [], 0, [⟨21, 0⟩, ⟨12, 1⟩, ⟨20, 0⟩, ⟨10, 0⟩]⟩) (by decide))
    (Els.cons (Hel := [ROw (.slice (some ⟨g3, 0, none⟩) 1 1) [(1 : Int)], ROw (.slice (some ⟨g4, 0, none⟩) 4 4) [(⟨8, 0⟩ : MOp), ⟨3, 0⟩, ⟨7, 0⟩, ⟨13, 0⟩]]) (cs := [_, _, _, _]) (hel_fn (f := ⟨1, [1], 1, [⟨8, 0⟩, ⟨3, 0⟩, ⟨7, 0⟩, ⟨13, 0⟩]⟩) (by decide)) Els.nil_)) rfl (by decide) ?_
  exact h.msub (T := [RBox g5 _ _, ROw (.slice none 0 0) ([] : List Int), ROw (.slice (some ⟨g2, 0, none⟩) 4 4) _, ROw (.slice (some ⟨g3, 0, none⟩) 1 1) _, ROw (.slice (some ⟨g4, 0, none⟩) 4 4) _]) (by repeat (first | exact .z | refine .s (by first | (repeat (first | with_reducible exact .a | with_reducible apply Foc.s)); done | (repeat (first | exact .a | apply Foc.s))) ?_))
theorem square_enc : (encodeP squareM).2 = 0 ∧ (encodeP squareM).1.length = 32 ∧ decodeP (encodeP squareM).1 = (squareM, 0) ∧ (decodeP ((encodeP squareM).1 ++ [122])).2 = 1 ∧ checkP squareM = 0 := by decide +kernel
set_option maxRecDepth 100000 in
set_option maxHeartbeats 1000000 in
theorem progBegun_any (w : World) : Calls Try.prog 15 #[] w fun e w' => e = .returned (.bool true) ∧ Below w.heap.size w w' := by
  obtain ⟨q1, q2, q3, q4, q5⟩ := square_enc
  obtain ⟨E, hE⟩ : ∃ E, (encodeP squareM).1 = E := ⟨_, rfl⟩
  rw [hE] at q2 q3 q4
  refine enter Try.func15 rfl Try.ntmps15 rfl ?_
  refine cw_seq ?_
  refine cw_region ?_
  refine rw_run tab_ok 1 [] rfl trivial ?_
  refine rw_end ?_
  refine cw_seq ?_
  refine cw_region ?_
  refine rw_op (ot_call rfl rfl rfl Try.call46 (fun w hw => (square_any w).mono fun _ _ ⟨g, h1, h2, h3⟩ => ⟨g, h1, h2, hw.app h3⟩)) rfl rfl (fun gs _ => ?_)
  have henc : ∀ w1 v c, Sl w1 (.slice v 2 c) squareM → Calls Try.prog 10 #[.agg #[.slice v 2 c]] w1 fun e w' => e = .returned (.tuple #[.string ⟨E.toArray⟩, .int .i64 0]) ∧ Below w1.heap.size w1 w' := fun w1 v c h => by
    have := pencode_any v c squareM w1 h
    rw [hE, q1] at this
    exact this
  have hdec : ∀ w1, Calls Try.prog 11 #[.string ⟨E.toArray⟩] w1 fun e w' => ∃ u, e = .returned (.tuple #[.agg #[u], .int .i64 0]) ∧ Below w1.heap.size w1 w' ∧ OwN w' w1.heap.size u squareM := fun w1 => by
    have := pdecode_any E w1 (by omega)
    rw [q3] at this
    exact this
  have hdec2 : ∀ w1, Calls Try.prog 11 #[.string ⟨(E ++ [122]).toArray⟩] w1 fun e w' => ∃ u, e = .returned (.tuple #[.agg #[u], .int .i64 1]) ∧ Below w1.heap.size w1 w' ∧ OwN w' w1.heap.size u (decodeP (E ++ [122])).1 := fun w1 => by
    have := pdecode_any (E ++ [122]) w1 (by rw [List.length_append, q2]; decide)
    rw [q4] at this
    exact this
  have hchk : ∀ w1 v c, Sl w1 (.slice v 2 c) squareM → Calls Try.prog 16 #[.agg #[.slice v 2 c]] w1 fun e w' => e = .returned (.int .i64 0) ∧ Below w1.heap.size w1 w' := fun w1 v c h => by
    have := pcheck_any v c squareM w1 h
    rw [q5] at this
    exact this
  refine rw_op (ot_c0 rfl rfl rfl Try.call10 (fun w hw => henc w _ _ (SF.at_ (xs := squareM) (m := 2) (SF.own rfl (by first | (repeat (first | with_reducible exact .a | with_reducible apply Foc.s)); done | (repeat (first | exact .a | apply Foc.s)))) hw))) rfl rfl (fun _ _ => ?_)
  refine rw_run tab_ok 5 [(1, _), (2, _)] rfl ⟨rfl, rfl, trivial⟩ ?_
  refine rw_end ?_
  refine cw_seq ?_
  refine cw_region ?_
  refine rw_run tab_ok 1 [(1, _), (2, _), (13, _)] rfl ⟨rfl, rfl, rfl, trivial⟩ ?_
  refine rw_op (ot_cO rfl rfl rfl Try.call11 (fun w hw => hdec w)) rfl rfl (fun ⟨A1, c1⟩ _ => ?_)
  try dsimp only
  refine rw_run tab_ok 3 [(1, _), (2, _), (15, _), (16, _)] rfl ⟨rfl, rfl, rfl, rfl, trivial⟩ ?_
  refine rw_op (ot_alloc Try.zeroValue24 rfl rfl) rfl rfl (fun g1 _ => ?_)
  refine rw_op (ot_stb _ (by first | (repeat (first | with_reducible exact .a | with_reducible apply Foc.s)); done | (repeat (first | exact .a | apply Foc.s))) Try.sizeOf24 rfl rfl rfl rfl rfl (by rfl) rfl (by rfl)) rfl rfl (fun _ _ => ?_)
  refine rw_run tab_ok 1 [(1, _), (2, _), (3, _), (4, _)] rfl ⟨rfl, rfl, rfl, rfl, trivial⟩ ?_
  refine rw_end ?_
  refine cw_seq ?_
  refine cw_region ?_
  refine rw_run tab_ok 1 [(1, _), (2, _), (3, _), (4, _), (18, _)] rfl ⟨rfl, rfl, rfl, rfl, rfl, trivial⟩ ?_
  refine rw_s (qs_catS (by rw [q2]; decide) rfl rfl rfl) rfl rfl ?_
  refine rw_op (ot_cO rfl rfl rfl Try.call11 (fun w hw => hdec2 w)) rfl rfl (fun ⟨A2, c2⟩ _ => ?_)
  try dsimp only
  refine rw_run tab_ok 3 [(1, _), (2, _), (3, _), (4, _), (21, _), (22, _)] rfl ⟨rfl, rfl, rfl, rfl, rfl, rfl, trivial⟩ ?_
  refine rw_op (ot_alloc Try.zeroValue24 rfl rfl) rfl rfl (fun g2 _ => ?_)
  refine rw_op (ot_stb _ (by first | (repeat (first | with_reducible exact .a | with_reducible apply Foc.s)); done | (repeat (first | exact .a | apply Foc.s))) Try.sizeOf24 rfl rfl rfl rfl rfl (by rfl) rfl (by rfl)) rfl rfl (fun _ _ => ?_)
  refine rw_run tab_ok 1 [(1, _), (2, _), (3, _), (4, _), (6, _)] rfl ⟨rfl, rfl, rfl, rfl, rfl, trivial⟩ ?_
  refine rw_end ?_
  refine cw_seq ?_
  refine cw_draw (.pick 0 (.pick 1 (.still 2 (.still 3 (.still 4 (.still 5 (.still 6 (.still 7 (.still 8 (.still 9 (.still 10 (.still 11 (.still 12 (.still 13 (.still 14 (.still 15 (.still 16 (.still 17 (.still 18 (.still 19 (.still 20 (.still 21 (.pick 22 (.pick 23 (.still 24 (.still 25 .done)) .stop) .stop))))))))))))))))))))) .stop) .stop) [] rfl (by kernel_rfl) (by kernel_rfl) ?_
  refine ro_op2 rfl (ot_call rfl rfl rfl Try.call46 (fun w hw => (square_any w).mono fun _ _ ⟨g, h1, h2, h3⟩ => ⟨g, h1, h2, hw.app h3⟩)) rfl rfl (.inr fun _ => (by first | exact Has.rfl | exact Has.s Has.rfl | exact Has.m (by repeat (first | exact .z | refine .s (by first | (repeat (first | with_reducible exact .a | with_reducible apply Foc.s)); done | (repeat (first | exact .a | apply Foc.s))) ?_)))) (fun gs2 _ => ?_) ro_stop
  refine ro_op2 rfl (ot_c0 rfl rfl rfl Try.call16 (fun w hw => hchk w _ _ (SF.at_ (xs := squareM) (m := 2) (SF.own rfl (by first | (repeat (first | with_reducible exact .a | with_reducible apply Foc.s)); done | (repeat (first | exact .a | apply Foc.s)))) hw))) rfl rfl (.inr fun _ => (by first | exact Has.rfl | exact Has.s Has.rfl | exact Has.m (by repeat (first | exact .z | refine .s (by first | (repeat (first | with_reducible exact .a | with_reducible apply Foc.s)); done | (repeat (first | exact .a | apply Foc.s))) ?_)))) (fun _ _ => ?_) ro_stop
  refine ro_run tab_ok (by first | exact Has.rfl | exact Has.s Has.rfl | exact Has.m (by repeat (first | exact .z | refine .s (by first | (repeat (first | with_reducible exact .a | with_reducible apply Foc.s)); done | (repeat (first | exact .a | apply Foc.s))) ?_))) 2 [(1, _), (2, _), (3, _), (4, _), (6, _), (26, _)] rfl ⟨rfl, rfl, rfl, rfl, rfl, rfl, trivial⟩ ?_
  refine ro_as (t := 26) (v' := .bool true) rfl (rfl) ?_
  refine ro_run tab_ok (by first | exact Has.rfl | exact Has.s Has.rfl | exact Has.m (by repeat (first | exact .z | refine .s (by first | (repeat (first | with_reducible exact .a | with_reducible apply Foc.s)); done | (repeat (first | exact .a | apply Foc.s))) ?_))) 4 [(1, _), (3, _), (4, _), (6, _), (30, _)] rfl ⟨rfl, rfl, rfl, rfl, rfl, trivial⟩ ?_
  refine ro_as (t := 30) (v' := .bool true) rfl (rfl) ?_
  refine ro_run tab_ok (by first | exact Has.rfl | exact Has.s Has.rfl | exact Has.m (by repeat (first | exact .z | refine .s (by first | (repeat (first | with_reducible exact .a | with_reducible apply Foc.s)); done | (repeat (first | exact .a | apply Foc.s))) ?_))) 4 [(1, _), (3, _), (6, _), (34, _)] rfl ⟨rfl, rfl, rfl, rfl, trivial⟩ ?_
  refine ro_as (t := 34) (v' := .bool true) rfl (rfl) ?_
  refine ro_run tab_ok (by first | exact Has.rfl | exact Has.s Has.rfl | exact Has.m (by repeat (first | exact .z | refine .s (by first | (repeat (first | with_reducible exact .a | with_reducible apply Foc.s)); done | (repeat (first | exact .a | apply Foc.s))) ?_))) 4 [(1, _), (3, _), (38, _)] rfl ⟨rfl, rfl, rfl, trivial⟩ ?_
  refine ro_as (t := 38) (v' := .bool true) rfl (rfl) ?_
  refine ro_run tab_ok (by first | exact Has.rfl | exact Has.s Has.rfl | exact Has.m (by repeat (first | exact .z | refine .s (by first | (repeat (first | with_reducible exact .a | with_reducible apply Foc.s)); done | (repeat (first | exact .a | apply Foc.s))) ?_))) 1 [(3, _), (38, _), (39, _)] rfl ⟨rfl, rfl, rfl, trivial⟩ ?_
  refine ro_s2 rfl (qs_lenS Try.underlying9 rfl rfl) rfl rfl (by first | exact Has.rfl | exact Has.s Has.rfl | exact Has.m (by repeat (first | exact .z | refine .s (by first | (repeat (first | with_reducible exact .a | with_reducible apply Foc.s)); done | (repeat (first | exact .a | apply Foc.s))) ?_))) ?_
  refine ro_run tab_ok (by first | exact Has.rfl | exact Has.s Has.rfl | exact Has.m (by repeat (first | exact .z | refine .s (by first | (repeat (first | with_reducible exact .a | with_reducible apply Foc.s)); done | (repeat (first | exact .a | apply Foc.s))) ?_))) 3 [(3, _), (43, _)] rfl ⟨rfl, rfl, trivial⟩ ?_
  refine ro_as (t := 43) (v' := .bool true) rfl (by rw [q2]; rfl) ?_
  refine ro_s2 rfl (qs_ldbA (vs := [_]) (by first | (repeat (first | with_reducible exact .a | with_reducible apply Foc.s)); done | (repeat (first | exact .a | apply Foc.s))) Try.isAgg24 Try.sizeOf24 rfl rfl (by rfl) rfl) rfl rfl (by first | exact Has.rfl | exact Has.s Has.rfl | exact Has.m (by repeat (first | exact .z | refine .s (by first | (repeat (first | with_reducible exact .a | with_reducible apply Foc.s)); done | (repeat (first | exact .a | apply Foc.s))) ?_))) ?_
  refine ro_op2 rfl (ot_call rfl rfl rfl Try.call46 (fun w hw => (square_any w).mono fun _ _ ⟨g, h1, h2, h3⟩ => ⟨g, h1, h2, hw.app h3⟩)) rfl rfl (.inr fun _ => (by first | exact Has.rfl | exact Has.s Has.rfl | exact Has.m (by repeat (first | exact .z | refine .s (by first | (repeat (first | with_reducible exact .a | with_reducible apply Foc.s)); done | (repeat (first | exact .a | apply Foc.s))) ?_)))) (fun gs3 _ => ?_) ro_stop
  have hsame : ∀ w1 v c v2 c2, Sl w1 (.slice v 2 c) squareM → Sl w1 (.slice v2 2 c2) squareM → Calls Try.prog 17 #[.agg #[.slice v 2 c], .agg #[.slice v2 2 c2]] w1 fun e w' => e = .returned (.bool true) ∧ Below w1.heap.size w1 w' := fun w1 v c v2 c2 h1 h2 => by
    have := rsameP_any v v2 c c2 squareM squareM w1 h1 h2
    rw [decide_eq_true rfl] at this
    exact this
  refine ro_op2 rfl (ot_c0 rfl rfl rfl Try.call17 (fun w hw => hsame w _ _ _ _ (SF.at_ (xs := squareM) (m := 2) (SF.own rfl (by first | (repeat (first | with_reducible exact .a | with_reducible apply Foc.s)); done | (repeat (first | exact .a | apply Foc.s)))) hw) (SF.at_ (xs := squareM) (m := 2) (SF.own rfl (by first | (repeat (first | with_reducible exact .a | with_reducible apply Foc.s)); done | (repeat (first | exact .a | apply Foc.s)))) hw))) rfl rfl (.inr fun _ => (by first | exact Has.rfl | exact Has.s Has.rfl | exact Has.m (by repeat (first | exact .z | refine .s (by first | (repeat (first | with_reducible exact .a | with_reducible apply Foc.s)); done | (repeat (first | exact .a | apply Foc.s))) ?_)))) (fun _ _ => ?_) ro_stop
  refine ro_run tab_ok (by first | exact Has.rfl | exact Has.s Has.rfl | exact Has.m (by repeat (first | exact .z | refine .s (by first | (repeat (first | with_reducible exact .a | with_reducible apply Foc.s)); done | (repeat (first | exact .a | apply Foc.s))) ?_))) 2 [(0, _)] rfl ⟨rfl, trivial⟩ ?_
  refine ro_end ?_
  refine cw_ret ?_
  refine xw_ret1 Try.results15 (rv_tmp rfl) ?_
  intro w hw
  exact ⟨rfl, hw.below⟩
end Go.Proofs.Ytejpkcheimgdfaa

-- OpPure
/- What is encoded is decoded as it was, and what is decoded is encoded as it was: plain lists of bytes. -/
namespace Go.Proofs.Ytejpkcheimgdfaa

theorem u8_ofNat_toNat (n : Nat) (h : n < 256) : (UInt8.ofNat n).toNat = n := by simp [UInt8.toNat_ofNat']; omega
theorem numberOf_four (a : Int) (h : isInt a = true) : numberOf (fourOf a) = a := by
  simp [isInt] at h
  have e0 := u8_ofNat_toNat (a % 4294967296 / 16777216).toNat (by omega)
  have e1 := u8_ofNat_toNat (a % 4294967296 / 65536 % 256).toNat (by omega)
  have e2 := u8_ofNat_toNat (a % 4294967296 / 256 % 256).toNat (by omega)
  have e3 := u8_ofNat_toNat (a % 256).toNat (by omega)
  simp only [numberOf, fourOf, numU, List.foldl_cons, List.foldl_nil, e0, e1, e2, e3, wrapI]
  omega
theorem four_numberOf (b0 b1 b2 b3 : UInt8) : fourOf (numberOf [b0, b1, b2, b3]) = [b0, b1, b2, b3] := by
  have h0 := b0.toNat_lt
  have h1 := b1.toNat_lt
  have h2 := b2.toNat_lt
  have h3 := b3.toNat_lt
  have key : ∀ (b : UInt8) (n : Int), n = b.toNat → UInt8.ofNat n.toNat = b := by
    intro b n h; subst h; simp
  have hn : numberOf [b0, b1, b2, b3] % 4294967296 = ((((b0.toNat : Int) * 256 + b1.toNat) * 256 + b2.toNat) * 256 + b3.toNat) := by
    simp only [numberOf, numU, List.foldl_cons, List.foldl_nil, wrapI]; omega
  generalize numberOf [b0, b1, b2, b3] = n at *
  rw [fourOf, key b0 (n % 4294967296 / 16777216) (by omega), key b1 (n % 4294967296 / 65536 % 256) (by omega), key b2 (n % 4294967296 / 256 % 256) (by omega), key b3 (n % 256) (by omega)]
theorem isInt_numberOf (l : List UInt8) : isInt (numberOf l) = true := by
  have h : -2147483648 ≤ numberOf l ∧ numberOf l ≤ 2147483647 := by unfold numberOf wrapI; omega
  simp [isInt, h.1, h.2]
theorem firstOp_bytes (o : MOp) (h : isCode o.c = true ∧ (names o.c = true ∨ o.a = 0) ∧ isInt o.a = true) (r : List UInt8) :
    ∃ b t, opBytes o = b :: t ∧ firstOp b (t ++ r) = (o, r, true) := by
  obtain ⟨hc, hn, hi⟩ := h
  have hcc := hc
  simp [isCode] at hcc
  have hb : ((UInt8.ofNat (o.c % 256).toNat).toNat : Int) = o.c := by rw [u8_ofNat_toNat _ (by omega)]; omega
  refine ⟨_, _, rfl, ?_⟩
  obtain ⟨c, a⟩ := o
  simp only at hc hn hi hb ⊢
  unfold firstOp
  rw [hb, hc]
  cases hnn : names c with
  | false =>
    have : a = 0 := by rcases hn with h | h; · rw [h] at hnn; cases hnn
                       · exact h
    subst this
    simp
  | true =>
    have h4 : ¬ ((fourOf a ++ r).length : Int) < 4 := by simp [fourOf]; omega
    have ht : (fourOf a ++ r).take 4 = fourOf a := by simp [fourOf]
    have hd : (fourOf a ++ r).drop 4 = r := by simp [fourOf]
    have hcut : cutB (fourOf a ++ r) 4 = (fourOf a, r, true) := by
      unfold cutB; rw [if_neg h4]
      show ((fourOf a ++ r).take 4, (fourOf a ++ r).drop 4, true) = _
      rw [ht, hd]
    simp [hcut, numberOf_four a hi]
theorem bytes_firstOp (b : UInt8) (l : List UInt8) (h : (firstOp b l).2.2 = true) : checkOp (firstOp b l).1 = 0 ∧ b :: l = opBytes (firstOp b l).1 ++ (firstOp b l).2.1 := by
  have hb8 := b.toNat_lt
  have hbb : UInt8.ofNat ((b.toNat : Int) % 256).toNat = b := by
    rw [show ((b.toNat : Int) % 256).toNat = b.toNat from by omega]; simp
  unfold firstOp at h ⊢
  cases hc : isCode b.toNat with
  | false => rw [hc] at h; simp at h
  | true =>
    rw [hc] at h
    cases hn : names b.toNat with
    | false =>
      simp only [Bool.not_true, Bool.not_false, if_true]
      refine ⟨?_, ?_⟩
      · simp [checkOp, hc, hn, isInt]
      · simp [opBytes, hn, hbb]
    | true =>
      rw [hn] at h
      simp only [Bool.not_true] at h ⊢
      by_cases h4 : (l.length : Int) < 4
      · have hcut : cutB l 4 = ([], [], false) := by unfold cutB; rw [if_pos h4]
        rw [hcut] at h; simp at h
      · have hcut : cutB l 4 = (l.take 4, l.drop 4, true) := by unfold cutB; rw [if_neg h4]; rfl
        rw [hcut]
        have hl4 : ∃ b0 b1 b2 b3 r, l = b0 :: b1 :: b2 :: b3 :: r := by
          match l, h4 with
          | b0 :: b1 :: b2 :: b3 :: r, _ => exact ⟨_, _, _, _, _, rfl⟩
          | [], h => simp at h
          | [_], h => simp at h
          | [_, _], h => simp at h
          | [_, _, _], h => simp at h
        obtain ⟨b0, b1, b2, b3, r, rfl⟩ := hl4
        refine ⟨?_, ?_⟩
        · simp [checkOp, hc, hn, isInt_numberOf]
        · simp [opBytes, hn, hbb, four_numberOf]
theorem decodeGo_back (k : Nat) : ∀ (r : List UInt8) (out res : List MOp), decodeGo k r out = (res, 0) → out.length ≤ 40 → ∃ new, res = out ++ new ∧ codeBytes new = r ∧ (∀ o ∈ new, checkOp o = 0) ∧ res.length ≤ 40 := by
  induction k with
  | zero =>
    intro r out res h h40
    cases r with
    | nil => simp [decodeGo] at h; subst h; exact ⟨[], by simp [codeBytes], by simp [codeBytes], by simp, h40⟩
    | cons b r => simp [decodeGo] at h
  | succ k ih =>
    intro r out res h h40
    cases r with
    | nil => simp [decodeGo] at h; subst h; exact ⟨[], by simp [codeBytes], by simp [codeBytes], by simp, h40⟩
    | cons b r =>
      simp only [decodeGo] at h
      split at h
      · simp at h
      rename_i hok
      split at h
      · simp at h
      rename_i h41
      obtain ⟨h1, h2⟩ := bytes_firstOp b r (by simpa using hok)
      obtain ⟨new, e1, e2, e3, e4⟩ := ih _ _ _ h (by simp at h41 ⊢; omega)
      refine ⟨(firstOp b r).1 :: new, by rw [e1]; simp, ?_, ?_, e4⟩
      · rw [h2, ← e2]; simp [codeBytes]
      · intro o ho
        rcases List.mem_cons.1 ho with rfl | ho
        · exact h1
        · exact e3 o ho
theorem checkOps_all {l : List MOp} (h : ∀ o ∈ l, checkOp o = 0) : checkOps l = 0 := by
  induction l with
  | nil => rfl
  | cons a l ih => simp [checkOps, h a (by simp)]; exact ih (fun o ho => h o (by simp [ho]))
/-- What is decoded is encoded as it was. -/
theorem decode_encode (s : List UInt8) (h : (decodeOps s).2 = 0) : encodeOps (decodeOps s).1 = (s, 0) := by
  obtain ⟨new, e1, e2, e3, e4⟩ := decodeGo_back s.length s [] (decodeOps s).1 (by rw [← h]; rfl) (by simp)
  simp at e1
  subst e1
  have hc : codeErr (decodeOps s).1 = 0 := by unfold codeErr; rw [if_neg (by omega), checkOps_all e3]
  simp [encodeOps, hc, e2]
theorem decode_err (s : List UInt8) (h : (decodeOps s).2 ≠ 0) : (decodeOps s).1 = [] := by
  have : ∀ k r out, (decodeGo k r out).2 ≠ 0 → (decodeGo k r out).1 = [] := by
    intro k
    induction k with
    | zero => intro r out h; cases r <;> simp_all [decodeGo]
    | succ k ih =>
      intro r out h
      cases r with
      | nil => simp [decodeGo] at h
      | cons b r =>
        simp only [decodeGo] at h ⊢
        split
        · rfl
        split
        · rfl
        · rename_i h1 h2
          rw [if_neg h1, if_neg h2] at h
          exact ih _ _ h
  exact this _ _ _ h
theorem opBytes_pos (o : MOp) : 1 ≤ (opBytes o).length := by simp [opBytes]
theorem decodeGo_codeBytes : ∀ (l out : List MOp) (k : Nat), (∀ o ∈ l, isCode o.c = true ∧ (names o.c = true ∨ o.a = 0) ∧ isInt o.a = true) → out.length + l.length ≤ 40 → (codeBytes l).length ≤ k → decodeGo k (codeBytes l) out = (out ++ l, 0)
  | [], out, k, _, _, _ => by cases k <;> simp [codeBytes, decodeGo]
  | o :: l, out, k, h, h40, hk => by
    obtain ⟨b, t, e1, e2⟩ := firstOp_bytes o (h o (by simp)) (codeBytes l)
    have e3 : codeBytes (o :: l) = b :: (t ++ codeBytes l) := by simp [codeBytes, e1]
    rw [e3] at hk ⊢
    cases k with
    | zero => simp at hk
    | succ k =>
      have h41 : (out.length == 40) = false := by simp at h40 ⊢; omega
      simp only [decodeGo, e2, h41]
      have := decodeGo_codeBytes l (out ++ [o]) k (fun o ho => h o (by simp [ho])) (by simp at h40 ⊢; omega) (by simp at hk; omega)
      simpa using this
theorem codeBytes_append (l m : List MOp) : codeBytes (l ++ m) = codeBytes l ++ codeBytes m := by simp [codeBytes]
end Go.Proofs.Ytejpkcheimgdfaa

-- Pr14
/- Programs: what the statements' functions answer. -/
namespace Go.Proofs.Ytejpkcheimgdfaa
open Go.RowKit

theorem agg_w {f : FuncId} {w : World} {v : Value} {b : Bool} (h : b = true) (hc : Calls Try.prog f #[v] w fun e w' => e = .returned (.bool b) ∧ Below w.heap.size w w') : Calls Try.prog f #[v] w fun e w' => e = .returned (.bool true) ∧ Below w.heap.size w w' := by
  subst h; exact hc
set_option maxRecDepth 100000 in
set_option maxHeartbeats 2000000 in
theorem progTells_any (A : Option Addr) (c : Nat) (fs : List MFunc) (s : List UInt8) (w : World) (hs : Sl w (.slice A fs.length c) fs) (hl : s.length ≤ 140737488355320) :
    Calls Try.prog 3 #[.agg #[.slice A fs.length c], .string ⟨s.toArray⟩] w fun e w' => e = .returned (.bool true) ∧ Below w.heap.size w w' := by
  refine enter Try.func3 rfl Try.ntmps3 rfl ?_
  refine cw_seq ?_
  refine cw_region ?_
  refine rw_op (ot_box rfl rfl rfl) rfl rfl (fun g1 _ => ?_)
  refine rw_run tab_ok 1 [(1, _), (2, _)] rfl ⟨rfl, rfl, trivial⟩ ?_
  refine rw_end ?_
  refine cw_seq ?_
  refine cw_region ?_
  refine rw_s (qs_ldbA (vs := [_]) (by first | (repeat (first | with_reducible exact .a | with_reducible apply Foc.s)); done | (repeat (first | exact .a | apply Foc.s))) Try.isAgg24 Try.sizeOf24 rfl rfl (by rfl) rfl) rfl rfl ?_
  refine rw_op (ot_c0 rfl rfl rfl Try.call10 (fun w hw => pencode_any A c fs w (hw.ro hs))) rfl rfl (fun _ _ => ?_)
  refine rw_run tab_ok 5 [(1, _), (2, _), (5, _), (6, _)] rfl ⟨rfl, rfl, rfl, rfl, trivial⟩ ?_
  refine rw_end ?_
  refine cw_seq ?_
  refine cw_region ?_
  refine rw_run tab_ok 1 [(1, _), (2, _), (5, _), (6, _), (19, _)] rfl ⟨rfl, rfl, rfl, rfl, rfl, trivial⟩ ?_
  refine rw_op (ot_cO rfl rfl rfl Try.call11 (fun w hw => pdecode_any s w hl)) rfl rfl (fun ⟨A1, c1⟩ _ => ?_)
  try dsimp only
  refine rw_run tab_ok 3 [(1, _), (2, _), (5, _), (6, _), (21, _), (22, _)] rfl ⟨rfl, rfl, rfl, rfl, rfl, rfl, trivial⟩ ?_
  refine rw_op (ot_alloc Try.zeroValue24 rfl rfl) rfl rfl (fun g2 _ => ?_)
  refine rw_op (ot_stb _ (by first | (repeat (first | with_reducible exact .a | with_reducible apply Foc.s)); done | (repeat (first | exact .a | apply Foc.s))) Try.sizeOf24 rfl rfl rfl rfl rfl (by rfl) rfl (by rfl)) rfl rfl (fun _ _ => ?_)
  refine rw_run tab_ok 1 [(1, _), (2, _), (5, _), (6, _), (7, _), (8, _)] rfl ⟨rfl, rfl, rfl, rfl, rfl, rfl, trivial⟩ ?_
  refine rw_end ?_
  refine cw_seq ?_
  refine cw_region ?_
  refine rw_s (qs_ldbA (vs := [_]) (by first | (repeat (first | with_reducible exact .a | with_reducible apply Foc.s)); done | (repeat (first | exact .a | apply Foc.s))) Try.isAgg24 Try.sizeOf24 rfl rfl (by rfl) rfl) rfl rfl ?_
  refine rw_op (ot_c0 rfl rfl rfl Try.call12 (fun w hw => rcheckP_any A c fs w (hw.ro hs))) rfl rfl (fun _ _ => ?_)
  refine rw_run tab_ok 2 [(1, _), (2, _), (5, _), (6, _), (7, _), (8, _), (9, _), (10, _)] rfl ⟨rfl, rfl, rfl, rfl, rfl, rfl, rfl, rfl, trivial⟩ ?_
  refine rw_end ?_
  refine cw_seq ?_
  refine cw_seq ?_
  refine cw_region ?_
  refine rw_run tab_ok 2 [(1, _), (2, _), (5, _), (6, _), (7, _), (8, _), (9, _), (10, _), (26, _)] rfl ⟨rfl, rfl, rfl, rfl, rfl, rfl, rfl, rfl, rfl, trivial⟩ ?_
  refine rw_end ?_
  refine cw_cutk (fun _ : Unit => True) (fun _ => [(1, .string ⟨s.toArray⟩), (2, .pointer (some ⟨g1, 0, none⟩)), (5, .string ⟨(encodeP fs).1.toArray⟩), (6, .int .i64 (encodeP fs).2), (7, .pointer (some ⟨g2, 0, none⟩)), (8, .int .i64 (decodeP s).2), (9, .int .i64 (checkP fs)), (10, .string ⟨(encodeP fs).1.toArray⟩)]) (fun _ => [RBox g1 [.slice A fs.length c] 24, RBox g2 [.slice A1 (decodeP s).1.length c1] 24, ROw (.slice A1 (decodeP s).1.length c1) (decodeP s).1]) ?_ ?_
  · refine cw_condD rfl (fun h => ?_) (fun h => ?_)
    · have he := encodeP_of h
      refine cw_region ?_
      refine rw_s (qs_ldbA (vs := [_]) (by first | (repeat (first | with_reducible exact .a | with_reducible apply Foc.s)); done | (repeat (first | exact .a | apply Foc.s))) Try.isAgg24 Try.sizeOf24 rfl rfl (by rfl) rfl) rfl rfl ?_
      refine rw_op (ot_c0 rfl rfl rfl Try.call13 (fun w hw => rprogBytes_any A c fs w (hw.ro hs) h)) rfl rfl (fun _ _ => ?_)
      refine rw_run tab_ok 1 [(1, _), (2, _), (5, _), (6, _), (7, _), (8, _), (9, _), (10, _)] rfl ⟨rfl, rfl, rfl, rfl, rfl, rfl, rfl, rfl, trivial⟩ ?_
      rw [he]
      refine rw_join () (trivial) ⟨rfl, rfl, rfl, rfl, rfl, rfl, rfl, rfl, trivial⟩ (by first | exact fun _ h => h | exact fun _ h => h.msub (by repeat (first | exact .z | refine .s (by first | (repeat (first | with_reducible exact .a | with_reducible apply Foc.s)); done | (repeat (first | exact .a | apply Foc.s))) ?_)))
    · have he := encodeP_no h
      refine cw_skip ?_
      rw [he]
      refine xw_join () (trivial) ⟨rfl, rfl, rfl, rfl, rfl, rfl, rfl, rfl, trivial⟩ (by first | exact fun _ h => h | exact fun _ h => h.msub (by repeat (first | exact .z | refine .s (by first | (repeat (first | with_reducible exact .a | with_reducible apply Foc.s)); done | (repeat (first | exact .a | apply Foc.s))) ?_)))
  · rintro _ _
    refine cw_seq ?_
    refine cw_region ?_
    refine rw_run tab_ok 1 [(2, _), (5, _), (6, _), (7, _), (8, _), (9, _), (10, _), (30, _)] rfl ⟨rfl, rfl, rfl, rfl, rfl, rfl, rfl, rfl, trivial⟩ ?_
    refine rw_op (ot_cO rfl rfl rfl Try.call14 (fun w hw => rprogramOf_any s w hl)) rfl rfl (fun ⟨A2, c2⟩ _ => ?_)
    try dsimp only
    refine rw_run tab_ok 3 [(2, _), (5, _), (6, _), (7, _), (8, _), (9, _), (10, _), (32, _), (33, _)] rfl ⟨rfl, rfl, rfl, rfl, rfl, rfl, rfl, rfl, rfl, trivial⟩ ?_
    refine rw_op (ot_alloc Try.zeroValue24 rfl rfl) rfl rfl (fun g3 _ => ?_)
    refine rw_op (ot_stb _ (by first | (repeat (first | with_reducible exact .a | with_reducible apply Foc.s)); done | (repeat (first | exact .a | apply Foc.s))) Try.sizeOf24 rfl rfl rfl rfl rfl (by rfl) rfl (by rfl)) rfl rfl (fun _ _ => ?_)
    refine rw_run tab_ok 1 [(2, _), (5, _), (6, _), (7, _), (8, _), (9, _), (10, _), (11, _), (12, _)] rfl ⟨rfl, rfl, rfl, rfl, rfl, rfl, rfl, rfl, rfl, trivial⟩ ?_
    refine rw_end ?_
    refine cw_seq ?_
    refine cw_region ?_
    refine rw_op (ot_c0 rfl rfl rfl Try.call15 (fun w hw => progBegun_any w)) rfl rfl (fun _ _ => ?_)
    refine rw_run tab_ok 1 [(2, _), (5, _), (6, _), (7, _), (8, _), (9, _), (10, _), (11, _), (12, _), (35, _)] rfl ⟨rfl, rfl, rfl, rfl, rfl, rfl, rfl, rfl, rfl, rfl, trivial⟩ ?_
    refine rw_s (qs_ldbA (vs := [_]) (by first | (repeat (first | with_reducible exact .a | with_reducible apply Foc.s)); done | (repeat (first | exact .a | apply Foc.s))) Try.isAgg24 Try.sizeOf24 rfl rfl (by rfl) rfl) rfl rfl ?_
    refine rw_op (ot_c0 rfl rfl rfl Try.call16 (fun w hw => pcheck_any A c fs w (hw.ro hs))) rfl rfl (fun _ _ => ?_)
    refine rw_run tab_ok 4 [(5, _), (6, _), (7, _), (8, _), (9, _), (10, _), (11, _), (12, _), (41, _)] rfl ⟨rfl, rfl, rfl, rfl, rfl, rfl, rfl, rfl, rfl, trivial⟩ ?_
    refine rw_as (t := 41) (v' := .bool true) rfl (by rw [decide_eq_true rfl]) ?_
    refine rw_run tab_ok 5 [(5, _), (7, _), (8, _), (10, _), (11, _), (12, _), (46, _)] rfl ⟨rfl, rfl, rfl, rfl, rfl, rfl, rfl, trivial⟩ ?_
    have h2 : (encodeP fs).2 = checkP fs := by
      by_cases h : checkP fs = 0
      · rw [encodeP_of h, h]
      · rw [encodeP_no h]
    refine rw_as (t := 46) (v' := .bool true) rfl (by rw [decide_eq_true h2]) ?_
    refine rw_run tab_ok 2 [(7, _), (8, _), (11, _), (12, _), (46, _), (47, _), (48, _)] rfl ⟨rfl, rfl, rfl, rfl, rfl, rfl, rfl, trivial⟩ ?_
    refine rw_s (qs_eqS rfl rfl rfl) rfl rfl ?_
    refine rw_run tab_ok 2 [(7, _), (8, _), (11, _), (12, _), (51, _)] rfl ⟨rfl, rfl, rfl, rfl, rfl, trivial⟩ ?_
    refine rw_as (t := 51) (v' := .bool true) rfl (by rw [decide_eq_true rfl]) ?_
    refine rw_run tab_ok 5 [(7, _), (11, _), (56, _)] rfl ⟨rfl, rfl, rfl, trivial⟩ ?_
    refine rw_as (t := 56) (v' := .bool true) rfl (by rw [decide_eq_true rfl]) ?_
    refine rw_s (qs_ldbA (vs := [_]) (by first | (repeat (first | with_reducible exact .a | with_reducible apply Foc.s)); done | (repeat (first | exact .a | apply Foc.s))) Try.isAgg24 Try.sizeOf24 rfl rfl (by rfl) rfl) rfl rfl ?_
    refine rw_s (qs_ldbA (vs := [_]) (by first | (repeat (first | with_reducible exact .a | with_reducible apply Foc.s)); done | (repeat (first | exact .a | apply Foc.s))) Try.isAgg24 Try.sizeOf24 rfl rfl (by rfl) rfl) rfl rfl ?_
    refine rw_op (ot_c0 rfl rfl rfl Try.call17 (fun w hw => rsameP_any _ _ _ _ (decodeP s).1 (decodeP s).1 w (SF.at_ (SF.own rfl (by first | (repeat (first | with_reducible exact .a | with_reducible apply Foc.s)); done | (repeat (first | exact .a | apply Foc.s)))) hw) (SF.at_ (SF.own rfl (by first | (repeat (first | with_reducible exact .a | with_reducible apply Foc.s)); done | (repeat (first | exact .a | apply Foc.s)))) hw))) rfl rfl (fun _ _ => ?_)
    refine rw_run tab_ok 2 [(4, _)] rfl ⟨rfl, trivial⟩ ?_
    refine rw_end ?_
    refine cw_ret ?_
    refine xw_ret1 Try.results3 (rv_tmp rfl) ?_
    intro w hw
    exact ⟨ret_bool (by rw [decide_eq_true rfl]), hw.below⟩
theorem progTells_law (v : Value) (fs : List MFunc) (s : List UInt8) (w : World) (hs : Sl w v fs) (hl : s.length ≤ 140737488351232) : Calls Try.prog 3 #[.agg #[v], .string ⟨s.toArray⟩] w fun e w' => e = .returned (.bool true) ∧ Below w.heap.size w w' := by
  obtain ⟨A, c, rfl, _⟩ := hs.form
  exact progTells_any A c fs s w hs (by omega)
end Go.Proofs.Ytejpkcheimgdfaa

