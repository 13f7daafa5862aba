-- written by mp.py, a program of this session, over the kit's printer
import Derived.Test.YtikepmdhnbnohaaPx0
namespace Go.Proofs.Ytikepmdhnbnohaa.P
open Go.RowKit Go.Proofs.YtikepmdhnbnohaaW.PrintWords Go.Proofs.YtikepmdhnbnohaaW.PrintLast Go.Proofs.YtikepmdhnbnohaaW.PrintMore
attribute [local go_sem] max2_int min2_int max_two min_two max_three min_three max_four min_four   -- for this text's walks alone
set_option linter.unusedVariables false
set_option linter.unusedSimpArgs false

/-! ### diff_FromRuns: function 26 -/
/-- What the closure lays. -/
def diff_FromRuns.lay (i j a b : Int) (out : List S44) : List S44 :=
  if i < a then out ++ [⟨i, wrap64 (a - i), j, wrap64 (b - j)⟩] else if j < b then out ++ [⟨i, wrap64 (a - i), j, wrap64 (b - j)⟩] else out
/-- The loop's rounds, by the runs that are left. -/
def diff_FromRuns.go (n m : Int) : List S32 → Int → Int → List S44 → Option (List S44)
  | [], i, j, out => if out.length < 4398046511103 then some (diff_FromRuns.lay i j n m out) else none
  | r :: rest, i, j, out =>
    if r.f2 < 1 then some [] else if r.f0 < i then some [] else if r.f1 < j then some [] else if n < r.f0 then some [] else if m < r.f1 then some [] else if wrap64 (n - r.f0) < r.f2 then some [] else if wrap64 (m - r.f1) < r.f2 then some []
    else if out.length < 4398046511103 then diff_FromRuns.go n m rest (wrap64 (r.f0 + r.f2)) (wrap64 (r.f1 + r.f2)) (diff_FromRuns.lay i j r.f0 r.f1 out) else none
def diff_FromRuns.f (a0 : Int) (a1 : Int) (l2 : List S32) : Option (List S44) :=
  if a0 < 0 then some [] else if a1 < 0 then some [] else diff_FromRuns.go a0 a1 l2 0 0 []

/-- Where the closure's three variables lie, and what they hold. -/
def diff_FromRuns.Vars (base bi bj bo : Nat) (i j : Int) (v : Value) (out : List S44) (w : World) : Prop :=
  w.heap[bi]? = some (.cells #[.int .i64 i] 3 (0, 0)) ∧ w.heap[bj]? = some (.cells #[.int .i64 j] 3 (0, 0)) ∧ w.heap[bo]? = some (.cells #[v] 26 (0, 0)) ∧
  Kd.R k44 44 w base (fun _ => True) v out
/-- All blocks but the variable's and the row's stay. -/
def diff_FromRuns.Keeps (bo : Nat) (v : Value) (w w' : World) : Prop := ∀ g o, w.heap[g]? = some o → g ≠ bo → some g ≠ v.ownBlock → w'.heap[g]? = some o
/-- Behind the append: the closure's variables. -/
theorem diff_FromRuns.laid {base bi bj bo : Nat} {i j : Int} {v v1 : Value} {out out1 : List S44} {w0 w w1 : World} (hbo : base ≤ bo) (hV : diff_FromRuns.Vars base bi bj bo i j v out w) (ho : Kd.R k44 44 w1 base (fun _ => True) v1 out1) (hb : Below base w0 w1)
    (hg : w.grownBy w1 v.ownBlock) (hbase : base ≤ w.heap.size) : diff_FromRuns.Vars base bi bj bo i j v1 out1 (w1.setCell ⟨bo, 0, none⟩ v1) ∧ Below base w0 (w1.setCell ⟨bo, 0, none⟩ v1) ∧ base ≤ (w1.setCell ⟨bo, 0, none⟩ v1).heap.size ∧ diff_FromRuns.Keeps bo v w (w1.setCell ⟨bo, 0, none⟩ v1) := by
  obtain ⟨hi, hj, hbo1, hO⟩ := hV
  have ni : bi ≠ bo := blk_ne hi hbo1 (by decide)
  have nj : bj ≠ bo := blk_ne hj hbo1 (by decide)
  have h1 := blk_grown hi hg (Kd.R_ne hO hi (by decide))
  have h2 := blk_grown hj hg (Kd.R_ne hO hj (by decide))
  have h3 := blk_grown hbo1 hg (Kd.R_ne hO hbo1 (by decide))
  refine ⟨⟨blk_far h1 ni _, blk_far h2 nj _, blk_put h3 0 _ rfl, Kd.R_set ho h3 (by decide) 0 v1⟩, hb.setCell hbo _, ?_⟩
  have h4 := hg.size
  refine ⟨by simp; omega, fun g o hgo hne hn => ?_⟩
  exact (Below.heap_setCell w1 _ _ g hne).trans (blk_grown hgo hg hn)
set_option maxHeartbeats 1000000 in
set_option maxRecDepth 100000 in
theorem diff_FromRuns.lay_calls (a b i j : Int) (v : Value) (out : List S44) (base bi bj bo : Nat) (w0 w : World) (hbo : base ≤ bo) (hB : Below base w0 w) (hbase : base ≤ w.heap.size) (hl : out.length < 4398046511103)
    (hV : diff_FromRuns.Vars base bi bj bo i j v out w) :
    Calls Try.prog 36 #[.int .i64 a, .int .i64 b, .pointer (some ⟨bi, 0, none⟩), .pointer (some ⟨bj, 0, none⟩), .pointer (some ⟨bo, 0, none⟩)] w fun e w' =>
      e = .returned (.tuple #[]) ∧ ∃ v', diff_FromRuns.Vars base bi bj bo i j v' (diff_FromRuns.lay i j a b out) w' ∧ Below base w0 w' ∧ base ≤ w'.heap.size ∧ diff_FromRuns.Keeps bo v w w' := by
  have HV := Aside0.mk hV
  have HB := Aside0.mk hB
  have hci := blk_cell hV.1 0
  have hcj := blk_cell hV.2.1 0
  have hco := blk_cell hV.2.2.1 0
  have HL := Aside0.mk hl
  clear hV hB hl
  have key : (i < a ∨ (¬ i < a ∧ j < b)) ∨ (¬ i < a ∧ ¬ j < b) := by omega
  rcases key with key | ⟨c, d⟩
  · have e : diff_FromRuns.lay i j a b out = out ++ [⟨i, wrap64 (a - i), j, wrap64 (b - j)⟩] := by
      unfold diff_FromRuns.lay
      rcases key with c | ⟨c, d⟩
      · rw [if_pos c]
      · rw [if_neg c, if_pos d]
    have E := Aside0.mk e
    clear e
    rcases key with c | ⟨c, d⟩
    all_goals
      first | have c1 : decide (i < a) = true := decide_eq_true (by assumption) | have c1 : decide (i < a) = false := decide_eq_false (by assumption)
      try have d1 : decide (j < b) = true := decide_eq_true (by assumption)
      clear c
      try clear d
      go_enter Try.func36, Try.ntmps36
      go_wp2_with (first | ((with_reducible refine gate_builtin (b := .append) (xs := #[.tmp 15, .tmp 25]) rfl ?_); at_builtin; refine Kd.R_append k44 (w0 := w0) base rfl (.tmp 15) (.tmp 25) 26 44 (.agg #[(.int .i64 0), (.int .i64 0), (.int .i64 0), (.int .i64 0)]) 32 rfl Try.underlying26 info44 rfl (by decide) (by omega) v out (⟨i, wrap64 (a - i), j, wrap64 (b - j)⟩ : S44) [.int .i64 i, .int .i64 (wrap64 (a - i)), .int .i64 j, .int .i64 (wrap64 (b - j))] (fun _ => True) (fun _ => False) rfl rfl ?aP (fun _ hk => hk.elim) ?aF ?aO ?aB ?aS ?aL ?_; (case aP => exact k44_mkM _ _ _ (⟨i, wrap64 (a - i), j, wrap64 (b - j)⟩ : S44)); (case aF => exact (fun _ _ => trivial)); (case aO => exact HV.out.2.2.2); (case aB => exact HB.out); (case aS => exact hbase); (case aL => have := HL.out; omega); intro v1 w1 ho hb hg hat; obtain ⟨A1_, n1_, c1_, rfl⟩ : ∃ A n c, v1 = .slice A n c := (by obtain ⟨A, c, h⟩ := Kd.R_slice ho; exact ⟨A, _, c, h⟩); have HF := Aside0.mk (diff_FromRuns.laid hbo HV.out ho hb hg hbase); have hbo1 := blk_grown HV.out.2.2.1 hg (Kd.R_ne HV.out.2.2.2 HV.out.2.2.1 (by decide)); have hco1 := blk_cell hbo1 0; have hfo1 := blk_frozen hbo1 0; clear hbo1 ho hb hg hat))
      go_end0
      exact ⟨rfl, _, by rw [E.out]; exact HF.out.1, HF.out.2.1, HF.out.2.2.1, HF.out.2.2.2⟩
  · have e : diff_FromRuns.lay i j a b out = out := by unfold diff_FromRuns.lay; rw [if_neg c, if_neg d]
    have E := Aside0.mk e
    have c1 : decide (i < a) = false := decide_eq_false c
    have d1 : decide (j < b) = false := decide_eq_false d
    clear e c d
    go_enter Try.func36, Try.ntmps36
    go_wp2
    go_end0
    exact ⟨rfl, v, by rw [E.out]; exact HV.out, HB.out, hbase, fun g o hgo _ _ => hgo⟩
theorem diff_FromRuns.moved {base bi bj bo : Nat} {i j : Int} {v : Value} {out : List S44} {w : World} (hne : bi ≠ bj) (hV : diff_FromRuns.Vars base bi bj bo i j v out w) (i' j' : Int) :
    diff_FromRuns.Vars base bi bj bo i' j' v out ((w.setCell ⟨bi, 0, none⟩ (.int .i64 i')).setCell ⟨bj, 0, none⟩ (.int .i64 j')) ∧ diff_FromRuns.Vars base bi bj bo i' j' v out ((w.setCell ⟨bj, 0, none⟩ (.int .i64 j')).setCell ⟨bi, 0, none⟩ (.int .i64 i')) := by
  obtain ⟨hi, hj, ho, hO⟩ := hV
  have ni : bo ≠ bi := blk_ne ho hi (by decide)
  have nj : bo ≠ bj := blk_ne ho hj (by decide)
  refine ⟨⟨blk_far (blk_put hi 0 _ rfl) hne _, blk_put (blk_far hj (Ne.symm hne) _) 0 _ rfl, blk_far (blk_far ho ni _) nj _, ?_⟩, ⟨blk_put (blk_far hi hne _) 0 _ rfl, blk_far (blk_put hj 0 _ rfl) (Ne.symm hne) _, blk_far (blk_far ho nj _) ni _, ?_⟩⟩
  · exact Kd.R_set (Kd.R_set hO hi (by decide) 0 _) (blk_far hj (Ne.symm hne) _) (by decide) 0 _
  · exact Kd.R_set (Kd.R_set hO hj (by decide) 0 _) (blk_far hi hne _) (by decide) 0 _
set_option maxHeartbeats 2000000 in
set_option maxRecDepth 100000 in
theorem diff_FromRuns.calls (a0 : Int) (a1 : Int) (A2 : Option Addr) (c2 : Nat) (l2 : List (S32)) (r : List (S44)) (w : World) (hr2 : Kd.C k32 w A2 l2.length l2) (hc2 : l2.length ≤ c2) (h : diff_FromRuns.f a0 a1 l2 = some r) :
    Calls Try.prog 26 #[.int .i64 a0, .int .i64 a1, .slice A2 l2.length c2] w fun e w' => ∃ v0_ : Value, e = .returned (v0_) ∧ Kd.R k44 44 w' w.heap.size (fun _ => True) v0_ r ∧ Below w.heap.size w w' := by
  have HR2 := Aside0.mk hr2
  have HC2 := Aside0.mk hc2
  clear hr2 hc2
  have hu := Try.underlying32
  unfold diff_FromRuns.f at h
  by_cases c : a0 < 0
  · rw [if_pos c] at h
    obtain rfl := Option.some.inj h
    have c1 : decide (a0 < 0) = true := decide_eq_true c
    clear c
    go_enter Try.func26, Try.ntmps26
    go_wp2
    go_ret
    exact ⟨_, rfl, Kd.R_nil _ _ _ _ _, Below.refl _ _⟩
  rw [if_neg c] at h
  have c1 : decide (a0 < 0) = false := decide_eq_false c
  have c1' : 0 ≤ a0 := by omega
  clear c
  by_cases c : a1 < 0
  · rw [if_pos c] at h
    obtain rfl := Option.some.inj h
    have d1 : decide (a1 < 0) = true := decide_eq_true c
    clear c
    go_enter Try.func26, Try.ntmps26
    go_wp2
    go_ret
    exact ⟨_, rfl, Kd.R_nil _ _ _ _ _, Below.refl _ _⟩
  rw [if_neg c] at h
  have d1 : decide (a1 < 0) = false := decide_eq_false c
  have d1' : 0 ≤ a1 := by omega
  clear c
  have H' := Aside0.mk h
  clear h
  go_enter Try.func26, Try.ntmps26
  go_wp2
  go_loopg [22] l2.length (fun kq v22 w' => ∃ (x : Nat) (i j : Int) (v : Value) (out : List S44), v22 = .int .i64 x ∧ Aside0 (kq + x = l2.length) ∧ Aside0 (diff_FromRuns.go a0 a1 (l2.drop x) i j out = some r) ∧
    Aside0 (diff_FromRuns.Vars w.heap.size (w.heap.size + 1) (w.heap.size + 1 + 1) w.heap.size i j v out w') ∧ Aside0 (Below w.heap.size w w') ∧ Aside0 (w.heap.size + 3 ≤ w'.heap.size))
  case atStart =>
    refine ⟨0, 0, 0, .slice none 0 0, [], rfl, ⟨rfl⟩, H', ⟨⟨?_, ?_, ?_, Kd.R_nil _ _ _ _ _⟩⟩, ⟨below_alloc (below_alloc (below_alloc (Below.refl _ _) _) _) _⟩, ⟨by simp⟩⟩
    · exact blk_alloc (by simpa using blk_new (w.alloc (.cells #[.slice none 0 0] 26)) (.cells #[.int .i64 0] 3)) _
    · simpa using blk_new ((w.alloc (.cells #[.slice none 0 0] 26)).alloc (.cells #[.int .i64 0] 3)) (.cells #[.int .i64 0] 3)
    · exact blk_alloc (blk_alloc (blk_new _ _) _) _
  case round =>
    clear H'
    obtain ⟨x, i, j, v, out, rfl, HK, HA, HV, HB, HS⟩ := hrel
    have hbs : w.heap.size ≤ wr.heap.size := by have := HS.out; omega
    by_cases hx : x < l2.length
    · have hx1 : decide ((x : Int) < (l2.length : Int)) = true := decide_eq_true (by omega)
      have hxn : (x : Int) < (l2.length : Int) := by omega
      have hx0 : (0 : Int) ≤ (x : Int) := by omega
      obtain ⟨ad, eA, hq0, hq1, hq2⟩ := at_T32 HR2.out (x : Int) hx0 hxn
      cases eA
      have HA' := HA.out
      rw [List.drop_eq_getElem_cons hx] at HA'
      have hq : rd_T32 l2 (x : Int) = l2[x] := by unfold rd_T32; rw [Int.toNat_natCast, List.getD_eq_getElem?_getD, List.getElem?_eq_getElem hx]; rfl
      rw [← hq] at HA'
      generalize rd_T32 l2 (x : Int) = q at *
      clear hq
      simp only [Int.toNat_natCast] at hq0 hq1 hq2
      replace hq0 := (HB.out.cell (World.block_lt_of_cell? w _ hq0)).trans hq0
      replace hq1 := (HB.out.cell (World.block_lt_of_cell? w _ hq1)).trans hq1
      replace hq2 := (HB.out.cell (World.block_lt_of_cell? w _ hq2)).trans hq2
      have hci := fun o => (blk_cell (blk_alloc HV.out.1 o) 0)
      have hcj := fun o => (blk_cell (blk_alloc HV.out.2.1 o) 0)
      have hkx : 1 ≤ gk := by have := HK.out; omega
      unfold diff_FromRuns.go at HA'
      clear HA
      by_cases t1 : q.f2 < 1
      · rw [if_pos t1] at HA'
        obtain rfl := Option.some.inj HA'
        clear HA'
        have t1b : decide (q.f2 < 1) = true := decide_eq_true t1
        clear t1
        go_wp2
        go_ret
        exact ⟨_, rfl, Kd.R_nil _ _ _ _ _, below_alloc HB.out _⟩
      rw [if_neg t1] at HA'
      have t1b : decide (q.f2 < 1) = false := decide_eq_false t1
      clear t1
      by_cases t2 : q.f0 < i
      · rw [if_pos t2] at HA'
        obtain rfl := Option.some.inj HA'
        clear HA'
        have t2b : decide (q.f0 < i) = true := decide_eq_true t2
        clear t2
        go_wp2
        go_ret
        exact ⟨_, rfl, Kd.R_nil _ _ _ _ _, below_alloc HB.out _⟩
      rw [if_neg t2] at HA'
      have t2b : decide (q.f0 < i) = false := decide_eq_false t2
      clear t2
      by_cases t3 : q.f1 < j
      · rw [if_pos t3] at HA'
        obtain rfl := Option.some.inj HA'
        clear HA'
        have t3b : decide (q.f1 < j) = true := decide_eq_true t3
        clear t3
        go_wp2
        go_ret
        exact ⟨_, rfl, Kd.R_nil _ _ _ _ _, below_alloc HB.out _⟩
      rw [if_neg t3] at HA'
      have t3b : decide (q.f1 < j) = false := decide_eq_false t3
      clear t3
      by_cases t4 : a0 < q.f0
      · rw [if_pos t4] at HA'
        obtain rfl := Option.some.inj HA'
        clear HA'
        have t4b : decide (a0 < q.f0) = true := decide_eq_true t4
        clear t4
        go_wp2
        go_ret
        exact ⟨_, rfl, Kd.R_nil _ _ _ _ _, below_alloc HB.out _⟩
      rw [if_neg t4] at HA'
      have t4b : decide (a0 < q.f0) = false := decide_eq_false t4
      clear t4
      by_cases t5 : a1 < q.f1
      · rw [if_pos t5] at HA'
        obtain rfl := Option.some.inj HA'
        clear HA'
        have t5b : decide (a1 < q.f1) = true := decide_eq_true t5
        clear t5
        go_wp2
        go_ret
        exact ⟨_, rfl, Kd.R_nil _ _ _ _ _, below_alloc HB.out _⟩
      rw [if_neg t5] at HA'
      have t5b : decide (a1 < q.f1) = false := decide_eq_false t5
      clear t5
      by_cases t6 : wrap64 (a0 - q.f0) < q.f2
      · rw [if_pos t6] at HA'
        obtain rfl := Option.some.inj HA'
        clear HA'
        have t6b : decide (wrap64 (a0 - q.f0) < q.f2) = true := decide_eq_true t6
        clear t6
        go_wp2
        go_ret
        exact ⟨_, rfl, Kd.R_nil _ _ _ _ _, below_alloc HB.out _⟩
      rw [if_neg t6] at HA'
      have t6b : decide (wrap64 (a0 - q.f0) < q.f2) = false := decide_eq_false t6
      clear t6
      by_cases t7 : wrap64 (a1 - q.f1) < q.f2
      · rw [if_pos t7] at HA'
        obtain rfl := Option.some.inj HA'
        clear HA'
        have t7b : decide (wrap64 (a1 - q.f1) < q.f2) = true := decide_eq_true t7
        clear t7
        go_wp2
        go_ret
        exact ⟨_, rfl, Kd.R_nil _ _ _ _ _, below_alloc HB.out _⟩
      rw [if_neg t7] at HA'
      have t7b : decide (wrap64 (a1 - q.f1) < q.f2) = false := decide_eq_false t7
      clear t7
      by_cases t8 : out.length < 4398046511103
      · rw [if_pos t8] at HA'
        have HL := Aside0.mk t8
        have HA := Aside0.mk HA'
        clear HA' t8
        go_wp2_with (go_at_call 36; (with_reducible refine (diff_FromRuns.lay_calls q.f0 q.f1 i j v out w.heap.size (w.heap.size + 1) (w.heap.size + 1 + 1) w.heap.size w _ (Nat.le_refl _) ?sB ?sS HL.out ?sV).mono ?_); (case sB => exact below_alloc HB.out _); (case sS => simp; omega); (case sV => exact ⟨blk_alloc HV.out.1 _, blk_alloc HV.out.2.1 _, blk_alloc HV.out.2.2.1 _, Kd.R_alloc HV.out.2.2.2 _⟩); rintro e w1 ⟨rfl, v1, hV1, hB1, hS1, hK1⟩; have HQ := hK1 _ _ (blk_new wr (.cells #[.int .i64 q.f0, .int .i64 q.f1, .int .i64 q.f2] 32)) (by have := HS.out; omega) (Kd.R_away (Kd.R_elderB HV.out.2.2.2 _ (Nat.le_refl _)) (fun _ hk => hk.2)); have HV1 := Aside0.mk hV1; have HB1 := Aside0.mk hB1; have hz0 := blk_cell HQ 0; have hz1 := blk_cell HQ 1; have hz2 := blk_cell HQ 2; have hi1 := blk_cell hV1.1 0; have hj1 := blk_cell hV1.2.1 0; have hfi1 := blk_frozen hV1.1 0; have hfj1 := blk_frozen hV1.2.1 0; clear HQ hV1 hB1 hK1)
        obtain ⟨kq, rfl⟩ : ∃ kq, gk = kq + 1 := ⟨gk - 1, by omega⟩
        go_region
        all_goals
          go_wp2
          go_roundg kq
        case measure => omega
        case rel =>
          refine ⟨x + 1, wrap64 (q.f0 + q.f2), wrap64 (q.f1 + q.f2), v1, diff_FromRuns.lay i j q.f0 q.f1 out, ?_, ⟨by have := HK.out; omega⟩, HA, ⟨?_⟩, ⟨?_⟩, ⟨?_⟩⟩
          · have hb := HR2.out.2.1
            have hw : wrap64 ((x : Int) + 1) = ((x + 1 : Nat) : Int) := by unfold wrap64; omega
            rw [hw]
          · obtain ⟨z1, z2, z3, z4⟩ := (diff_FromRuns.moved (show w.heap.size + 1 ≠ w.heap.size + 1 + 1 by omega) HV1.out (wrap64 (q.f0 + q.f2)) (wrap64 (q.f1 + q.f2))).1
            exact ⟨z1, z2, z3, Kd.R_drew z4⟩
          · exact below_drew1 ((HB1.out.setCell (by simp) _).setCell (by simp; omega) _)
          · have := blk_lt HV1.out.2.1
            simp
            omega
      · rw [if_neg t8] at HA'
        exact absurd HA' (by simp)
    · have hx1 : decide ((x : Int) < (l2.length : Int)) = false := decide_eq_false (by omega)
      have HA' := HA.out
      rw [List.drop_eq_nil_of_le (by omega)] at HA'
      unfold diff_FromRuns.go at HA'
      clear HA
      by_cases t8 : out.length < 4398046511103
      · rw [if_pos t8] at HA'
        obtain rfl := Option.some.inj HA'
        have HL := Aside0.mk t8
        clear HA' t8
        go_wp2_with (go_at_call 36; (with_reducible refine (diff_FromRuns.lay_calls a0 a1 i j v out w.heap.size (w.heap.size + 1) (w.heap.size + 1 + 1) w.heap.size w _ (Nat.le_refl _) ?sB ?sS HL.out ?sV).mono ?_); (case sB => exact HB.out); (case sS => exact hbs); (case sV => exact HV.out); rintro e w1 ⟨rfl, v1, hV1, hB1, hS1, hK1⟩; have HV1 := Aside0.mk hV1; have HB1 := Aside0.mk hB1; have ho1 := blk_cell hV1.2.2.1 0; clear hV1 hB1 hK1)
        go_ret
        exact ⟨_, rfl, HV1.out.2.2.2, HB1.out⟩
      · rw [if_neg t8] at HA'
        exact absurd HA' (by simp)

end Go.Proofs.Ytikepmdhnbnohaa.P
