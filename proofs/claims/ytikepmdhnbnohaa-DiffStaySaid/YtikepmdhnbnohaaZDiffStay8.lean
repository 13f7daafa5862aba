-- put together by bundle.py, a program of this session, out of the texts named below
import Derived.Test.YtikepmdhnbnohaaZDiffStay0
import Derived.Test.YtikepmdhnbnohaaZDiffStay2
import Derived.Test.YtikepmdhnbnohaaZDiffStay3
import Derived.Test.YtikepmdhnbnohaaZDiffStay4
import Derived.Test.YtikepmdhnbnohaaZDiffStay5
import Derived.Test.YtikepmdhnbnohaaZDiffStay6
import Derived.Test.YtikepmdhnbnohaaZDiffStay7
import Derived.ChangeArms
import Derived.SizedLaws
import Derived.DataReads
import Derived.WideShapes
import Derived.Deep.Slices
import Derived.KernelRfl
-- text YtikepmdhnbnohaaPx24
section
-- written by mp.py, a program of this session, over the kit's printer
namespace Go.Proofs.Ytikepmdhnbnohaa.P
open Go.RowKit Go.Proofs.YtikepmdhnbnohaaW.PrintWords Go.Proofs.YtikepmdhnbnohaaW.PrintLast Go.Proofs.YtikepmdhnbnohaaW.PrintMore
attribute [local go_sem] max2_int min2_int max_two min_two max_three min_three max_four min_four   -- for this text's walks alone
set_option linter.unusedVariables false
set_option linter.unusedSimpArgs false

/-! ### diff_FromRuns: function 26 -/
/-- What the closure lays. -/
def diff_FromRuns.lay (i j a b : Int) (out : List S44) : List S44 :=
  if i < a then out ++ [⟨i, wrap64 (a - i), j, wrap64 (b - j)⟩] else if j < b then out ++ [⟨i, wrap64 (a - i), j, wrap64 (b - j)⟩] else out
/-- The loop's rounds, by the runs that are left. -/
def diff_FromRuns.go (n m : Int) : List S32 → Int → Int → List S44 → Option (List S44)
  | [], i, j, out => if out.length < 4398046511103 then some (diff_FromRuns.lay i j n m out) else none
  | r :: rest, i, j, out =>
    if r.f2 < 1 then some [] else if r.f0 < i then some [] else if r.f1 < j then some [] else if n < r.f0 then some [] else if m < r.f1 then some [] else if wrap64 (n - r.f0) < r.f2 then some [] else if wrap64 (m - r.f1) < r.f2 then some []
    else if out.length < 4398046511103 then diff_FromRuns.go n m rest (wrap64 (r.f0 + r.f2)) (wrap64 (r.f1 + r.f2)) (diff_FromRuns.lay i j r.f0 r.f1 out) else none
def diff_FromRuns.f (a0 : Int) (a1 : Int) (l2 : List S32) : Option (List S44) :=
  if a0 < 0 then some [] else if a1 < 0 then some [] else diff_FromRuns.go a0 a1 l2 0 0 []

/-- Where the closure's three variables lie, and what they hold. -/
def diff_FromRuns.Vars (base bi bj bo : Nat) (i j : Int) (v : Value) (out : List S44) (w : World) : Prop :=
  w.heap[bi]? = some (.cells #[.int .i64 i] 3 (0, 0)) ∧ w.heap[bj]? = some (.cells #[.int .i64 j] 3 (0, 0)) ∧ w.heap[bo]? = some (.cells #[v] 26 (0, 0)) ∧
  Kd.R k44 44 w base (fun _ => True) v out
/-- All blocks but the variable's and the row's stay. -/
def diff_FromRuns.Keeps (bo : Nat) (v : Value) (w w' : World) : Prop := ∀ g o, w.heap[g]? = some o → g ≠ bo → some g ≠ v.ownBlock → w'.heap[g]? = some o
/-- Behind the append: the closure's variables. -/
theorem diff_FromRuns.laid {base bi bj bo : Nat} {i j : Int} {v v1 : Value} {out out1 : List S44} {w0 w w1 : World} (hbo : base ≤ bo) (hV : diff_FromRuns.Vars base bi bj bo i j v out w) (ho : Kd.R k44 44 w1 base (fun _ => True) v1 out1) (hb : Below base w0 w1)
    (hg : w.grownBy w1 v.ownBlock) (hbase : base ≤ w.heap.size) : diff_FromRuns.Vars base bi bj bo i j v1 out1 (w1.setCell ⟨bo, 0, none⟩ v1) ∧ Below base w0 (w1.setCell ⟨bo, 0, none⟩ v1) ∧ base ≤ (w1.setCell ⟨bo, 0, none⟩ v1).heap.size ∧ diff_FromRuns.Keeps bo v w (w1.setCell ⟨bo, 0, none⟩ v1) := by
  obtain ⟨hi, hj, hbo1, hO⟩ := hV
  have ni : bi ≠ bo := blk_ne hi hbo1 (by decide)
  have nj : bj ≠ bo := blk_ne hj hbo1 (by decide)
  have h1 := blk_grown hi hg (Kd.R_ne hO hi (by decide))
  have h2 := blk_grown hj hg (Kd.R_ne hO hj (by decide))
  have h3 := blk_grown hbo1 hg (Kd.R_ne hO hbo1 (by decide))
  refine ⟨⟨blk_far h1 ni _, blk_far h2 nj _, blk_put h3 0 _ rfl, Kd.R_set ho h3 (by decide) 0 v1⟩, hb.setCell hbo _, ?_⟩
  have h4 := hg.size
  refine ⟨by simp; omega, fun g o hgo hne hn => ?_⟩
  exact (Below.heap_setCell w1 _ _ g hne).trans (blk_grown hgo hg hn)
set_option maxHeartbeats 1000000 in
set_option maxRecDepth 100000 in
theorem diff_FromRuns.lay_calls (a b i j : Int) (v : Value) (out : List S44) (base bi bj bo : Nat) (w0 w : World) (hbo : base ≤ bo) (hB : Below base w0 w) (hbase : base ≤ w.heap.size) (hl : out.length < 4398046511103)
    (hV : diff_FromRuns.Vars base bi bj bo i j v out w) :
    Calls Try.prog 36 #[.int .i64 a, .int .i64 b, .pointer (some ⟨bi, 0, none⟩), .pointer (some ⟨bj, 0, none⟩), .pointer (some ⟨bo, 0, none⟩)] w fun e w' =>
      e = .returned (.tuple #[]) ∧ ∃ v', diff_FromRuns.Vars base bi bj bo i j v' (diff_FromRuns.lay i j a b out) w' ∧ Below base w0 w' ∧ base ≤ w'.heap.size ∧ diff_FromRuns.Keeps bo v w w' := by
  have HV := Aside0.mk hV
  have HB := Aside0.mk hB
  have hci := blk_cell hV.1 0
  have hcj := blk_cell hV.2.1 0
  have hco := blk_cell hV.2.2.1 0
  have HL := Aside0.mk hl
  clear hV hB hl
  have key : (i < a ∨ (¬ i < a ∧ j < b)) ∨ (¬ i < a ∧ ¬ j < b) := by omega
  rcases key with key | ⟨c, d⟩
  · have e : diff_FromRuns.lay i j a b out = out ++ [⟨i, wrap64 (a - i), j, wrap64 (b - j)⟩] := by
      unfold diff_FromRuns.lay
      rcases key with c | ⟨c, d⟩
      · rw [if_pos c]
      · rw [if_neg c, if_pos d]
    have E := Aside0.mk e
    clear e
    rcases key with c | ⟨c, d⟩
    all_goals
      first | have c1 : decide (i < a) = true := decide_eq_true (by assumption) | have c1 : decide (i < a) = false := decide_eq_false (by assumption)
      try have d1 : decide (j < b) = true := decide_eq_true (by assumption)
      clear c
      try clear d
      go_enter Try.func36, Try.ntmps36
      go_wp2_with (first | ((with_reducible refine gate_builtin (b := .append) (xs := #[.tmp 15, .tmp 25]) rfl ?_); at_builtin; refine Kd.R_append k44 (w0 := w0) base rfl (.tmp 15) (.tmp 25) 26 44 (.agg #[(.int .i64 0), (.int .i64 0), (.int .i64 0), (.int .i64 0)]) 32 rfl Try.underlying26 info44 rfl (by decide) (by omega) v out (⟨i, wrap64 (a - i), j, wrap64 (b - j)⟩ : S44) [.int .i64 i, .int .i64 (wrap64 (a - i)), .int .i64 j, .int .i64 (wrap64 (b - j))] (fun _ => True) (fun _ => False) rfl rfl ?aP (fun _ hk => hk.elim) ?aF ?aO ?aB ?aS ?aL ?_; (case aP => exact k44_mkM _ _ _ (⟨i, wrap64 (a - i), j, wrap64 (b - j)⟩ : S44)); (case aF => exact (fun _ _ => trivial)); (case aO => exact HV.out.2.2.2); (case aB => exact HB.out); (case aS => exact hbase); (case aL => have := HL.out; omega); intro v1 w1 ho hb hg hat; obtain ⟨A1_, n1_, c1_, rfl⟩ : ∃ A n c, v1 = .slice A n c := (by obtain ⟨A, c, h⟩ := Kd.R_slice ho; exact ⟨A, _, c, h⟩); have HF := Aside0.mk (diff_FromRuns.laid hbo HV.out ho hb hg hbase); have hbo1 := blk_grown HV.out.2.2.1 hg (Kd.R_ne HV.out.2.2.2 HV.out.2.2.1 (by decide)); have hco1 := blk_cell hbo1 0; have hfo1 := blk_frozen hbo1 0; clear hbo1 ho hb hg hat))
      go_end0
      exact ⟨rfl, _, by rw [E.out]; exact HF.out.1, HF.out.2.1, HF.out.2.2.1, HF.out.2.2.2⟩
  · have e : diff_FromRuns.lay i j a b out = out := by unfold diff_FromRuns.lay; rw [if_neg c, if_neg d]
    have E := Aside0.mk e
    have c1 : decide (i < a) = false := decide_eq_false c
    have d1 : decide (j < b) = false := decide_eq_false d
    clear e c d
    go_enter Try.func36, Try.ntmps36
    go_wp2
    go_end0
    exact ⟨rfl, v, by rw [E.out]; exact HV.out, HB.out, hbase, fun g o hgo _ _ => hgo⟩
theorem diff_FromRuns.moved {base bi bj bo : Nat} {i j : Int} {v : Value} {out : List S44} {w : World} (hne : bi ≠ bj) (hV : diff_FromRuns.Vars base bi bj bo i j v out w) (i' j' : Int) :
    diff_FromRuns.Vars base bi bj bo i' j' v out ((w.setCell ⟨bi, 0, none⟩ (.int .i64 i')).setCell ⟨bj, 0, none⟩ (.int .i64 j')) ∧ diff_FromRuns.Vars base bi bj bo i' j' v out ((w.setCell ⟨bj, 0, none⟩ (.int .i64 j')).setCell ⟨bi, 0, none⟩ (.int .i64 i')) := by
  obtain ⟨hi, hj, ho, hO⟩ := hV
  have ni : bo ≠ bi := blk_ne ho hi (by decide)
  have nj : bo ≠ bj := blk_ne ho hj (by decide)
  refine ⟨⟨blk_far (blk_put hi 0 _ rfl) hne _, blk_put (blk_far hj (Ne.symm hne) _) 0 _ rfl, blk_far (blk_far ho ni _) nj _, ?_⟩, ⟨blk_put (blk_far hi hne _) 0 _ rfl, blk_far (blk_put hj 0 _ rfl) (Ne.symm hne) _, blk_far (blk_far ho nj _) ni _, ?_⟩⟩
  · exact Kd.R_set (Kd.R_set hO hi (by decide) 0 _) (blk_far hj (Ne.symm hne) _) (by decide) 0 _
  · exact Kd.R_set (Kd.R_set hO hj (by decide) 0 _) (blk_far hi hne _) (by decide) 0 _
set_option maxHeartbeats 2000000 in
set_option maxRecDepth 100000 in
theorem diff_FromRuns.calls (a0 : Int) (a1 : Int) (A2 : Option Addr) (c2 : Nat) (l2 : List (S32)) (r : List (S44)) (w : World) (hr2 : Kd.C k32 w A2 l2.length l2) (hc2 : l2.length ≤ c2) (h : diff_FromRuns.f a0 a1 l2 = some r) :
    Calls Try.prog 26 #[.int .i64 a0, .int .i64 a1, .slice A2 l2.length c2] w fun e w' => ∃ v0_ : Value, e = .returned (v0_) ∧ Kd.R k44 44 w' w.heap.size (fun _ => True) v0_ r ∧ Below w.heap.size w w' := by
  have HR2 := Aside0.mk hr2
  have HC2 := Aside0.mk hc2
  clear hr2 hc2
  have hu := Try.underlying32
  unfold diff_FromRuns.f at h
  by_cases c : a0 < 0
  · rw [if_pos c] at h
    obtain rfl := Option.some.inj h
    have c1 : decide (a0 < 0) = true := decide_eq_true c
    clear c
    go_enter Try.func26, Try.ntmps26
    go_wp2
    go_ret
    exact ⟨_, rfl, Kd.R_nil _ _ _ _ _, Below.refl _ _⟩
  rw [if_neg c] at h
  have c1 : decide (a0 < 0) = false := decide_eq_false c
  have c1' : 0 ≤ a0 := by omega
  clear c
  by_cases c : a1 < 0
  · rw [if_pos c] at h
    obtain rfl := Option.some.inj h
    have d1 : decide (a1 < 0) = true := decide_eq_true c
    clear c
    go_enter Try.func26, Try.ntmps26
    go_wp2
    go_ret
    exact ⟨_, rfl, Kd.R_nil _ _ _ _ _, Below.refl _ _⟩
  rw [if_neg c] at h
  have d1 : decide (a1 < 0) = false := decide_eq_false c
  have d1' : 0 ≤ a1 := by omega
  clear c
  have H' := Aside0.mk h
  clear h
  go_enter Try.func26, Try.ntmps26
  go_wp2
  go_loopg [22] l2.length (fun kq v22 w' => ∃ (x : Nat) (i j : Int) (v : Value) (out : List S44), v22 = .int .i64 x ∧ Aside0 (kq + x = l2.length) ∧ Aside0 (diff_FromRuns.go a0 a1 (l2.drop x) i j out = some r) ∧
    Aside0 (diff_FromRuns.Vars w.heap.size (w.heap.size + 1) (w.heap.size + 1 + 1) w.heap.size i j v out w') ∧ Aside0 (Below w.heap.size w w') ∧ Aside0 (w.heap.size + 3 ≤ w'.heap.size))
  case atStart =>
    refine ⟨0, 0, 0, .slice none 0 0, [], rfl, ⟨rfl⟩, H', ⟨⟨?_, ?_, ?_, Kd.R_nil _ _ _ _ _⟩⟩, ⟨below_alloc (below_alloc (below_alloc (Below.refl _ _) _) _) _⟩, ⟨by simp⟩⟩
    · exact blk_alloc (by simpa using blk_new (w.alloc (.cells #[.slice none 0 0] 26)) (.cells #[.int .i64 0] 3)) _
    · simpa using blk_new ((w.alloc (.cells #[.slice none 0 0] 26)).alloc (.cells #[.int .i64 0] 3)) (.cells #[.int .i64 0] 3)
    · exact blk_alloc (blk_alloc (blk_new _ _) _) _
  case round =>
    clear H'
    obtain ⟨x, i, j, v, out, rfl, HK, HA, HV, HB, HS⟩ := hrel
    have hbs : w.heap.size ≤ wr.heap.size := by have := HS.out; omega
    by_cases hx : x < l2.length
    · have hx1 : decide ((x : Int) < (l2.length : Int)) = true := decide_eq_true (by omega)
      have hxn : (x : Int) < (l2.length : Int) := by omega
      have hx0 : (0 : Int) ≤ (x : Int) := by omega
      obtain ⟨ad, eA, hq0, hq1, hq2⟩ := at_T32 HR2.out (x : Int) hx0 hxn
      cases eA
      have HA' := HA.out
      rw [List.drop_eq_getElem_cons hx] at HA'
      have hq : rd_T32 l2 (x : Int) = l2[x] := by unfold rd_T32; rw [Int.toNat_natCast, List.getD_eq_getElem?_getD, List.getElem?_eq_getElem hx]; rfl
      rw [← hq] at HA'
      generalize rd_T32 l2 (x : Int) = q at *
      clear hq
      simp only [Int.toNat_natCast] at hq0 hq1 hq2
      replace hq0 := (HB.out.cell (World.block_lt_of_cell? w _ hq0)).trans hq0
      replace hq1 := (HB.out.cell (World.block_lt_of_cell? w _ hq1)).trans hq1
      replace hq2 := (HB.out.cell (World.block_lt_of_cell? w _ hq2)).trans hq2
      have hci := fun o => (blk_cell (blk_alloc HV.out.1 o) 0)
      have hcj := fun o => (blk_cell (blk_alloc HV.out.2.1 o) 0)
      have hkx : 1 ≤ gk := by have := HK.out; omega
      unfold diff_FromRuns.go at HA'
      clear HA
      by_cases t1 : q.f2 < 1
      · rw [if_pos t1] at HA'
        obtain rfl := Option.some.inj HA'
        clear HA'
        have t1b : decide (q.f2 < 1) = true := decide_eq_true t1
        clear t1
        go_wp2
        go_ret
        exact ⟨_, rfl, Kd.R_nil _ _ _ _ _, below_alloc HB.out _⟩
      rw [if_neg t1] at HA'
      have t1b : decide (q.f2 < 1) = false := decide_eq_false t1
      clear t1
      by_cases t2 : q.f0 < i
      · rw [if_pos t2] at HA'
        obtain rfl := Option.some.inj HA'
        clear HA'
        have t2b : decide (q.f0 < i) = true := decide_eq_true t2
        clear t2
        go_wp2
        go_ret
        exact ⟨_, rfl, Kd.R_nil _ _ _ _ _, below_alloc HB.out _⟩
      rw [if_neg t2] at HA'
      have t2b : decide (q.f0 < i) = false := decide_eq_false t2
      clear t2
      by_cases t3 : q.f1 < j
      · rw [if_pos t3] at HA'
        obtain rfl := Option.some.inj HA'
        clear HA'
        have t3b : decide (q.f1 < j) = true := decide_eq_true t3
        clear t3
        go_wp2
        go_ret
        exact ⟨_, rfl, Kd.R_nil _ _ _ _ _, below_alloc HB.out _⟩
      rw [if_neg t3] at HA'
      have t3b : decide (q.f1 < j) = false := decide_eq_false t3
      clear t3
      by_cases t4 : a0 < q.f0
      · rw [if_pos t4] at HA'
        obtain rfl := Option.some.inj HA'
        clear HA'
        have t4b : decide (a0 < q.f0) = true := decide_eq_true t4
        clear t4
        go_wp2
        go_ret
        exact ⟨_, rfl, Kd.R_nil _ _ _ _ _, below_alloc HB.out _⟩
      rw [if_neg t4] at HA'
      have t4b : decide (a0 < q.f0) = false := decide_eq_false t4
      clear t4
      by_cases t5 : a1 < q.f1
      · rw [if_pos t5] at HA'
        obtain rfl := Option.some.inj HA'
        clear HA'
        have t5b : decide (a1 < q.f1) = true := decide_eq_true t5
        clear t5
        go_wp2
        go_ret
        exact ⟨_, rfl, Kd.R_nil _ _ _ _ _, below_alloc HB.out _⟩
      rw [if_neg t5] at HA'
      have t5b : decide (a1 < q.f1) = false := decide_eq_false t5
      clear t5
      by_cases t6 : wrap64 (a0 - q.f0) < q.f2
      · rw [if_pos t6] at HA'
        obtain rfl := Option.some.inj HA'
        clear HA'
        have t6b : decide (wrap64 (a0 - q.f0) < q.f2) = true := decide_eq_true t6
        clear t6
        go_wp2
        go_ret
        exact ⟨_, rfl, Kd.R_nil _ _ _ _ _, below_alloc HB.out _⟩
      rw [if_neg t6] at HA'
      have t6b : decide (wrap64 (a0 - q.f0) < q.f2) = false := decide_eq_false t6
      clear t6
      by_cases t7 : wrap64 (a1 - q.f1) < q.f2
      · rw [if_pos t7] at HA'
        obtain rfl := Option.some.inj HA'
        clear HA'
        have t7b : decide (wrap64 (a1 - q.f1) < q.f2) = true := decide_eq_true t7
        clear t7
        go_wp2
        go_ret
        exact ⟨_, rfl, Kd.R_nil _ _ _ _ _, below_alloc HB.out _⟩
      rw [if_neg t7] at HA'
      have t7b : decide (wrap64 (a1 - q.f1) < q.f2) = false := decide_eq_false t7
      clear t7
      by_cases t8 : out.length < 4398046511103
      · rw [if_pos t8] at HA'
        have HL := Aside0.mk t8
        have HA := Aside0.mk HA'
        clear HA' t8
        go_wp2_with (go_at_call 36; (with_reducible refine (diff_FromRuns.lay_calls q.f0 q.f1 i j v out w.heap.size (w.heap.size + 1) (w.heap.size + 1 + 1) w.heap.size w _ (Nat.le_refl _) ?sB ?sS HL.out ?sV).mono ?_); (case sB => exact below_alloc HB.out _); (case sS => simp; omega); (case sV => exact ⟨blk_alloc HV.out.1 _, blk_alloc HV.out.2.1 _, blk_alloc HV.out.2.2.1 _, Kd.R_alloc HV.out.2.2.2 _⟩); rintro e w1 ⟨rfl, v1, hV1, hB1, hS1, hK1⟩; have HQ := hK1 _ _ (blk_new wr (.cells #[.int .i64 q.f0, .int .i64 q.f1, .int .i64 q.f2] 32)) (by have := HS.out; omega) (Kd.R_away (Kd.R_elderB HV.out.2.2.2 _ (Nat.le_refl _)) (fun _ hk => hk.2)); have HV1 := Aside0.mk hV1; have HB1 := Aside0.mk hB1; have hz0 := blk_cell HQ 0; have hz1 := blk_cell HQ 1; have hz2 := blk_cell HQ 2; have hi1 := blk_cell hV1.1 0; have hj1 := blk_cell hV1.2.1 0; have hfi1 := blk_frozen hV1.1 0; have hfj1 := blk_frozen hV1.2.1 0; clear HQ hV1 hB1 hK1)
        obtain ⟨kq, rfl⟩ : ∃ kq, gk = kq + 1 := ⟨gk - 1, by omega⟩
        go_region
        all_goals
          go_wp2
          go_roundg kq
        case measure => omega
        case rel =>
          refine ⟨x + 1, wrap64 (q.f0 + q.f2), wrap64 (q.f1 + q.f2), v1, diff_FromRuns.lay i j q.f0 q.f1 out, ?_, ⟨by have := HK.out; omega⟩, HA, ⟨?_⟩, ⟨?_⟩, ⟨?_⟩⟩
          · have hb := HR2.out.2.1
            have hw : wrap64 ((x : Int) + 1) = ((x + 1 : Nat) : Int) := by unfold wrap64; omega
            rw [hw]
          · obtain ⟨z1, z2, z3, z4⟩ := (diff_FromRuns.moved (show w.heap.size + 1 ≠ w.heap.size + 1 + 1 by omega) HV1.out (wrap64 (q.f0 + q.f2)) (wrap64 (q.f1 + q.f2))).1
            exact ⟨z1, z2, z3, Kd.R_drew z4⟩
          · exact below_drew1 ((HB1.out.setCell (by simp) _).setCell (by simp; omega) _)
          · have := blk_lt HV1.out.2.1
            simp
            omega
      · rw [if_neg t8] at HA'
        exact absurd HA' (by simp)
    · have hx1 : decide ((x : Int) < (l2.length : Int)) = false := decide_eq_false (by omega)
      have HA' := HA.out
      rw [List.drop_eq_nil_of_le (by omega)] at HA'
      unfold diff_FromRuns.go at HA'
      clear HA
      by_cases t8 : out.length < 4398046511103
      · rw [if_pos t8] at HA'
        obtain rfl := Option.some.inj HA'
        have HL := Aside0.mk t8
        clear HA' t8
        go_wp2_with (go_at_call 36; (with_reducible refine (diff_FromRuns.lay_calls a0 a1 i j v out w.heap.size (w.heap.size + 1) (w.heap.size + 1 + 1) w.heap.size w _ (Nat.le_refl _) ?sB ?sS HL.out ?sV).mono ?_); (case sB => exact HB.out); (case sS => exact hbs); (case sV => exact HV.out); rintro e w1 ⟨rfl, v1, hV1, hB1, hS1, hK1⟩; have HV1 := Aside0.mk hV1; have HB1 := Aside0.mk hB1; have ho1 := blk_cell hV1.2.2.1 0; clear hV1 hB1 hK1)
        go_ret
        exact ⟨_, rfl, HV1.out.2.2.2, HB1.out⟩
      · rw [if_neg t8] at HA'
        exact absurd HA' (by simp)

end Go.Proofs.Ytikepmdhnbnohaa.P
end
-- text YtikepmdhnbnohaaPx27
section
-- written by mp.py, a program of this session, over the kit's printer
namespace Go.Proofs.Ytikepmdhnbnohaa.P
open Go.RowKit Go.Proofs.YtikepmdhnbnohaaW.PrintWords Go.Proofs.YtikepmdhnbnohaaW.PrintLast Go.Proofs.YtikepmdhnbnohaaW.PrintMore
attribute [local go_sem] max2_int min2_int max_two min_two max_three min_three max_four min_four   -- for this text's walks alone
set_option linter.unusedVariables false
set_option linter.unusedSimpArgs false

/-! ### graftagelaw08_DiffStay: function 8 -/
def graftagelaw08_DiffStay.j0 : Nat → List ByteArray → List ByteArray → List (S44) → Bool → Option (Bool)
  | 0, _, _, _, _ => none
  | k + 1, x0, x1, x2, x26 => if x26 = true then ((graftagelaw08_lives.f k).bind fun t400 => (some t400)) else ((diff_Unchanged.f k x2 (x0.length : Int)).bind fun t401 => ((diff_FromRuns.f (x0.length : Int) (x1.length : Int) t401).bind fun t404 => ((graftageref08_Edits.f k t404 x2).bind fun t407 => (if t407 = true then ((graftagelaw08_lives.f k).bind fun t408 => (some t408)) else (some false)))))
def graftagelaw08_DiffStay.f (k : Nat) (l0 : List ByteArray) (l1 : List ByteArray) (l2 : List (S44)) : Option (Bool) := (graftagelaw08_short.f k l0).bind fun t397 => (if t397 = true then ((graftagelaw08_short.f k l1).bind fun t398 => (if t398 = true then (if (l2.length : Int) > 200 then (graftagelaw08_DiffStay.j0 k l0 l1 l2 true) else ((diff_Valid.f k l0 l1 l2).bind fun t399 => (graftagelaw08_DiffStay.j0 k l0 l1 l2 (!t399)))) else (graftagelaw08_DiffStay.j0 k l0 l1 l2 true))) else (graftagelaw08_DiffStay.j0 k l0 l1 l2 true))
set_option maxHeartbeats 8000000 in
set_option maxRecDepth 100000 in
theorem graftagelaw08_DiffStay.calls (k : Nat) (A0 : Option Addr) (c0 : Nat) (l0 : List ByteArray) (A1 : Option Addr) (c1 : Nat) (l1 : List ByteArray) (A2 : Option Addr) (c2 : Nat) (l2 : List (S44)) (r : Bool) (w : World) (hr0 : Kd.C Kd.string w A0 l0.length l0) (hc0 : l0.length ≤ c0) (hr1 : Kd.C Kd.string w A1 l1.length l1) (hc1 : l1.length ≤ c1) (hr2 : Kd.C k44 w A2 l2.length l2) (hc2 : l2.length ≤ c2) (h : graftagelaw08_DiffStay.f k l0 l1 l2 = some r) :
    Calls Try.prog 8 #[.slice A0 l0.length c0, .slice A1 l1.length c1, .slice A2 l2.length c2] w fun e w' => e = .returned (.bool r) ∧ Below w.heap.size w w' := by
  have HR0 := Aside0.mk hr0
  have HC0 := Aside0.mk hc0
  clear hr0 hc0
  have HR1 := Aside0.mk hr1
  have HC1 := Aside0.mk hc1
  clear hr1 hc1
  have HR2 := Aside0.mk hr2
  have HC2 := Aside0.mk hc2
  clear hr2 hc2
  have HB := Aside0.mk (Below.refl w.heap.size w)
  have H : ((graftagelaw08_short.f k l0).bind fun t397 => (if t397 = true then ((graftagelaw08_short.f k l1).bind fun t398 => (if t398 = true then (if (l2.length : Int) > 200 then (graftagelaw08_DiffStay.j0 k l0 l1 l2 true) else ((diff_Valid.f k l0 l1 l2).bind fun t399 => (graftagelaw08_DiffStay.j0 k l0 l1 l2 (!t399)))) else (graftagelaw08_DiffStay.j0 k l0 l1 l2 true))) else (graftagelaw08_DiffStay.j0 k l0 l1 l2 true))) = some r := h
  clear h
  have HC4 := Aside0.mk H
  clear H
  go_enter Try.func8, Try.ntmps8
  go_upto_region 1 with (fail)
  go_cut [26] (fun v26 wc => ∃ (kq : Nat) (x26_3 : Bool), v26 = .bool x26_3 ∧ Aside0 (graftagelaw08_DiffStay.j0 kq l0 l1 l2 x26_3 = some r) ∧ Aside0 (kq ≤ k) ∧ Aside0 (Below w.heap.size w wc))
  case first =>
    have H := HC4.out
    clear HC4
    replace H := Option.bind_eq_some_iff.mp H
    obtain ⟨t397, A50, H⟩ := H
    replace H : (if t397 = true then ((graftagelaw08_short.f k l1).bind fun t398 => (if t398 = true then (if (l2.length : Int) > 200 then (graftagelaw08_DiffStay.j0 k l0 l1 l2 true) else ((diff_Valid.f k l0 l1 l2).bind fun t399 => (graftagelaw08_DiffStay.j0 k l0 l1 l2 (!t399)))) else (graftagelaw08_DiffStay.j0 k l0 l1 l2 true))) else (graftagelaw08_DiffStay.j0 k l0 l1 l2 true)) = some r := H
    have A5 := Aside0.mk A50
    clear A50
    by_cases c6 : t397 = true
    · subst c6
      have H1 : ((graftagelaw08_short.f k l1).bind fun t398 => (if t398 = true then (if (l2.length : Int) > 200 then (graftagelaw08_DiffStay.j0 k l0 l1 l2 true) else ((diff_Valid.f k l0 l1 l2).bind fun t399 => (graftagelaw08_DiffStay.j0 k l0 l1 l2 (!t399)))) else (graftagelaw08_DiffStay.j0 k l0 l1 l2 true))) = some r := by rw [if_pos rfl] at H; exact H
      clear H
      have H := H1
      clear H1
      replace H := Option.bind_eq_some_iff.mp H
      obtain ⟨t398, A70, H⟩ := H
      replace H : (if t398 = true then (if (l2.length : Int) > 200 then (graftagelaw08_DiffStay.j0 k l0 l1 l2 true) else ((diff_Valid.f k l0 l1 l2).bind fun t399 => (graftagelaw08_DiffStay.j0 k l0 l1 l2 (!t399)))) else (graftagelaw08_DiffStay.j0 k l0 l1 l2 true)) = some r := H
      have A7 := Aside0.mk A70
      clear A70
      by_cases c8 : t398 = true
      · subst c8
        have H1 : (if (l2.length : Int) > 200 then (graftagelaw08_DiffStay.j0 k l0 l1 l2 true) else ((diff_Valid.f k l0 l1 l2).bind fun t399 => (graftagelaw08_DiffStay.j0 k l0 l1 l2 (!t399)))) = some r := by rw [if_pos rfl] at H; exact H
        clear H
        have H := H1
        clear H1
        by_cases c9 : (l2.length : Int) > 200
        · rw [if_pos c9] at H
          have c9b0 : decide (200 < (l2.length : Int)) = true := decide_eq_true c9
          have c9b1 : decide (200 < l2.length) = true := decide_eq_true (by omega)
          clear c9
          (first | rw [c9b0] | (simp only [i64_w, i32_w]; rw [c9b0]) | skip)
          have H' := Aside0.mk H
          clear H
          go_wp2_with (first | ((with_reducible refine gate_callee (f := 9) rfl ?_); refine goesL_ (some 8) rfl rfl Try.func9 (by kernel_rfl) rfl #[.slice A0 l0.length c0] rfl (by (try simp only [List.map_toArray, List.map_cons, List.map_nil]); first | done | rfl | (simp only [List.length_drop, List.length_take]; rfl)) ?_; (with_reducible refine (graftagelaw08_short.calls k _ _ l0 true _ ?side1 ?side2 A5.out).mono ?_); (case side1 => repeat (first | exact (Kd.C_below HR0.out HB.out) | (with_reducible refine Kd.C_alloc ?_ _) | (with_reducible refine Kd.C_drewN ?_ _) | (with_reducible refine Kd.C_drew ?_))); (case side2 => exact HC0.out); rintro e w' ⟨rfl, ⟨nd, rfl⟩⟩; refine ⟨_, rfl, ?_⟩) | (go_at_call 9; (with_reducible refine (graftagelaw08_short.calls k _ _ l1 true _ ?side1 ?side2 A7.out).mono ?_); (case side1 => repeat (first | exact (Kd.C_below HR1.out (by repeat (first | (with_reducible first | exact HB.out | apply below_alloc | apply pw_below_drewN | apply below_drew1) | exact HB.out))) | (with_reducible refine Kd.C_alloc ?_ _) | (with_reducible refine Kd.C_drewN ?_ _) | (with_reducible refine Kd.C_drew ?_))); (case side2 => exact HC1.out); rintro e w' ⟨rfl, ⟨nd, rfl⟩⟩))
          go_meet
          case rel => exact ⟨_, (true), (by first | rfl | (simp; done) | (simp [*]; done)), H', ⟨by first | omega | exact Nat.le_refl _⟩, ⟨by repeat (first | (with_reducible first | exact HB.out | apply below_alloc | apply pw_below_drewN | apply below_drew1) | exact HB.out)⟩⟩
        · rw [if_neg c9] at H
          have c9b0 : decide (200 < (l2.length : Int)) = false := decide_eq_false c9
          have c9b1 : decide (200 < l2.length) = false := decide_eq_false (by omega)
          clear c9
          (first | rw [c9b0] | (simp only [i64_w, i32_w]; rw [c9b0]) | skip)
          replace H := Option.bind_eq_some_iff.mp H
          obtain ⟨t399, A100, H⟩ := H
          replace H : (graftagelaw08_DiffStay.j0 k l0 l1 l2 (!t399)) = some r := H
          have A10 := Aside0.mk A100
          clear A100
          have H' := Aside0.mk H
          clear H
          go_wp2_with (first | ((with_reducible refine gate_callee (f := 9) rfl ?_); refine goesL_ (some 8) rfl rfl Try.func9 (by kernel_rfl) rfl #[.slice A0 l0.length c0] rfl (by (try simp only [List.map_toArray, List.map_cons, List.map_nil]); first | done | rfl | (simp only [List.length_drop, List.length_take]; rfl)) ?_; (with_reducible refine (graftagelaw08_short.calls k _ _ l0 true _ ?side1 ?side2 A5.out).mono ?_); (case side1 => repeat (first | exact (Kd.C_below HR0.out HB.out) | (with_reducible refine Kd.C_alloc ?_ _) | (with_reducible refine Kd.C_drewN ?_ _) | (with_reducible refine Kd.C_drew ?_))); (case side2 => exact HC0.out); rintro e w' ⟨rfl, ⟨nd, rfl⟩⟩; refine ⟨_, rfl, ?_⟩) | (go_at_call 9; (with_reducible refine (graftagelaw08_short.calls k _ _ l1 true _ ?side1 ?side2 A7.out).mono ?_); (case side1 => repeat (first | exact (Kd.C_below HR1.out (by repeat (first | (with_reducible first | exact HB.out | apply below_alloc | apply pw_below_drewN | apply below_drew1) | exact HB.out))) | (with_reducible refine Kd.C_alloc ?_ _) | (with_reducible refine Kd.C_drewN ?_ _) | (with_reducible refine Kd.C_drew ?_))); (case side2 => exact HC1.out); rintro e w' ⟨rfl, ⟨nd, rfl⟩⟩) | (go_at_call 19; (with_reducible refine (diff_Valid.calls k _ _ l0 _ _ l1 _ _ l2 t399 _ ?side1 ?side2 ?side3 ?side4 ?side5 ?side6 A10.out).mono ?_); (case side1 => repeat (first | exact (Kd.C_below HR0.out (by repeat (first | (with_reducible first | exact HB.out | apply below_alloc | apply pw_below_drewN | apply below_drew1) | exact HB.out))) | (with_reducible refine Kd.C_alloc ?_ _) | (with_reducible refine Kd.C_drewN ?_ _) | (with_reducible refine Kd.C_drew ?_))); (case side2 => exact HC0.out); (case side3 => repeat (first | exact (Kd.C_below HR1.out (by repeat (first | (with_reducible first | exact HB.out | apply below_alloc | apply pw_below_drewN | apply below_drew1) | exact HB.out))) | (with_reducible refine Kd.C_alloc ?_ _) | (with_reducible refine Kd.C_drewN ?_ _) | (with_reducible refine Kd.C_drew ?_))); (case side4 => exact HC1.out); (case side5 => repeat (first | exact (Kd.C_below HR2.out (by repeat (first | (with_reducible first | exact HB.out | apply below_alloc | apply pw_below_drewN | apply below_drew1) | exact HB.out))) | (with_reducible refine Kd.C_alloc ?_ _) | (with_reducible refine Kd.C_drewN ?_ _) | (with_reducible refine Kd.C_drew ?_))); (case side6 => exact HC2.out); rintro e w11 ⟨rfl, hb⟩; have n0_ := Aside0.mk (below_step (by repeat (first | (with_reducible first | exact HB.out | apply below_alloc | apply pw_below_drewN | apply below_drew1) | exact HB.out)) hb); clear HB; have HB := n0_; clear n0_; (try clear hb); (try clear hb2); (try clear hk); (try clear hi)))
          go_meet
          case rel => exact ⟨_, (!t399), (by first | rfl | (simp; done) | (simp [*]; done)), H', ⟨by first | omega | exact Nat.le_refl _⟩, ⟨by repeat (first | (with_reducible first | exact HB.out | apply below_alloc | apply pw_below_drewN | apply below_drew1) | exact HB.out)⟩⟩
      · replace c8 := Bool.eq_false_iff.mpr c8
        subst c8
        have H1 : (graftagelaw08_DiffStay.j0 k l0 l1 l2 true) = some r := by rw [if_neg (show ¬ (false = true) by decide)] at H; exact H
        clear H
        have H := H1
        clear H1
        have H' := Aside0.mk H
        clear H
        go_wp2_with (first | ((with_reducible refine gate_callee (f := 9) rfl ?_); refine goesL_ (some 8) rfl rfl Try.func9 (by kernel_rfl) rfl #[.slice A0 l0.length c0] rfl (by (try simp only [List.map_toArray, List.map_cons, List.map_nil]); first | done | rfl | (simp only [List.length_drop, List.length_take]; rfl)) ?_; (with_reducible refine (graftagelaw08_short.calls k _ _ l0 true _ ?side1 ?side2 A5.out).mono ?_); (case side1 => repeat (first | exact (Kd.C_below HR0.out HB.out) | (with_reducible refine Kd.C_alloc ?_ _) | (with_reducible refine Kd.C_drewN ?_ _) | (with_reducible refine Kd.C_drew ?_))); (case side2 => exact HC0.out); rintro e w' ⟨rfl, ⟨nd, rfl⟩⟩; refine ⟨_, rfl, ?_⟩) | (go_at_call 9; (with_reducible refine (graftagelaw08_short.calls k _ _ l1 false _ ?side1 ?side2 A7.out).mono ?_); (case side1 => repeat (first | exact (Kd.C_below HR1.out (by repeat (first | (with_reducible first | exact HB.out | apply below_alloc | apply pw_below_drewN | apply below_drew1) | exact HB.out))) | (with_reducible refine Kd.C_alloc ?_ _) | (with_reducible refine Kd.C_drewN ?_ _) | (with_reducible refine Kd.C_drew ?_))); (case side2 => exact HC1.out); rintro e w' ⟨rfl, ⟨nd, rfl⟩⟩))
        go_meet
        case rel => exact ⟨_, (true), (by first | rfl | (simp; done) | (simp [*]; done)), H', ⟨by first | omega | exact Nat.le_refl _⟩, ⟨by repeat (first | (with_reducible first | exact HB.out | apply below_alloc | apply pw_below_drewN | apply below_drew1) | exact HB.out)⟩⟩
    · replace c6 := Bool.eq_false_iff.mpr c6
      subst c6
      have H1 : (graftagelaw08_DiffStay.j0 k l0 l1 l2 true) = some r := by rw [if_neg (show ¬ (false = true) by decide)] at H; exact H
      clear H
      have H := H1
      clear H1
      have H' := Aside0.mk H
      clear H
      go_wp2_with (first | ((with_reducible refine gate_callee (f := 9) rfl ?_); refine goesL_ (some 8) rfl rfl Try.func9 (by kernel_rfl) rfl #[.slice A0 l0.length c0] rfl (by (try simp only [List.map_toArray, List.map_cons, List.map_nil]); first | done | rfl | (simp only [List.length_drop, List.length_take]; rfl)) ?_; (with_reducible refine (graftagelaw08_short.calls k _ _ l0 false _ ?side1 ?side2 A5.out).mono ?_); (case side1 => repeat (first | exact (Kd.C_below HR0.out HB.out) | (with_reducible refine Kd.C_alloc ?_ _) | (with_reducible refine Kd.C_drewN ?_ _) | (with_reducible refine Kd.C_drew ?_))); (case side2 => exact HC0.out); rintro e w' ⟨rfl, ⟨nd, rfl⟩⟩; refine ⟨_, rfl, ?_⟩))
      go_meet
      case rel => exact ⟨_, (true), (by first | rfl | (simp; done) | (simp [*]; done)), H', ⟨by first | omega | exact Nat.le_refl _⟩, ⟨by repeat (first | (with_reducible first | exact HB.out | apply below_alloc | apply pw_below_drewN | apply below_drew1) | exact HB.out)⟩⟩
  case rest =>
    clear HC4
    try clear c1
    try clear c2
    try clear p2
    try clear c6
    try clear c8
    try clear c9
    try clear c9b0
    try clear c9b1
    obtain ⟨kq, x26_3, rfl, HA, HJ3, HB⟩ := hcut
    cases kq with
    | zero => exact absurd HA.out (by simp [graftagelaw08_DiffStay.j0])
    | succ kj3 =>
      have H := HA.out
      clear HA
      simp only [graftagelaw08_DiffStay.j0] at H
      by_cases c12 : x26_3 = true
      · subst c12
        have H1 : ((graftagelaw08_lives.f kj3).bind fun t400 => (some t400)) = some r := by rw [if_pos rfl] at H; exact H
        clear H
        have H := H1
        clear H1
        replace H := Option.bind_eq_some_iff.mp H
        obtain ⟨t400, A130, H⟩ := H
        replace H : (some t400) = some r := H
        have A13 := Aside0.mk A130
        clear A130
        obtain rfl := Option.some.inj H
        go_wp2_with (first | ((with_reducible refine gate_callee (f := 10) rfl ?_); refine goesL_ (some 27) rfl rfl Try.func10 (by kernel_rfl) rfl #[] rfl (by (try simp only [List.map_toArray, List.map_cons, List.map_nil]); first | done | rfl | (simp only [List.length_drop, List.length_take]; rfl)) ?_; (with_reducible refine (graftagelaw08_lives.calls kj3  t400 _ A13.out).mono ?_); rintro e w14 ⟨rfl, hb⟩; refine ⟨_, rfl, ?_⟩; have n0_ := Aside0.mk (below_step (by repeat (first | (with_reducible first | exact HB.out | apply below_alloc | apply pw_below_drewN | apply below_drew1) | exact HB.out)) hb); clear HB; have HB := n0_; clear n0_; (try clear hb); (try clear hb2); (try clear hk); (try clear hi)))
        go_ret
        exact ⟨by first | rfl | (simp [errW_none, errW_some] <;> rfl) | (simp [*, errW_none, errW_some] <;> rfl), by repeat (first | (with_reducible first | exact HB.out | apply below_alloc | apply pw_below_drewN | apply below_drew1) | exact HB.out)⟩
      · replace c12 := Bool.eq_false_iff.mpr c12
        subst c12
        have H1 : ((diff_Unchanged.f kj3 l2 (l0.length : Int)).bind fun t401 => ((diff_FromRuns.f (l0.length : Int) (l1.length : Int) t401).bind fun t404 => ((graftageref08_Edits.f kj3 t404 l2).bind fun t407 => (if t407 = true then ((graftagelaw08_lives.f kj3).bind fun t408 => (some t408)) else (some false))))) = some r := by rw [if_neg (show ¬ (false = true) by decide)] at H; exact H
        clear H
        have H := H1
        clear H1
        replace H := Option.bind_eq_some_iff.mp H
        obtain ⟨t401, A150, H⟩ := H
        replace H : ((diff_FromRuns.f (l0.length : Int) (l1.length : Int) t401).bind fun t404 => ((graftageref08_Edits.f kj3 t404 l2).bind fun t407 => (if t407 = true then ((graftagelaw08_lives.f kj3).bind fun t408 => (some t408)) else (some false)))) = some r := H
        have A15 := Aside0.mk A150
        clear A150
        replace H := Option.bind_eq_some_iff.mp H
        obtain ⟨t404, A160, H⟩ := H
        replace H : ((graftageref08_Edits.f kj3 t404 l2).bind fun t407 => (if t407 = true then ((graftagelaw08_lives.f kj3).bind fun t408 => (some t408)) else (some false))) = some r := H
        have A16 := Aside0.mk A160
        clear A160
        replace H := Option.bind_eq_some_iff.mp H
        obtain ⟨t407, A170, H⟩ := H
        replace H : (if t407 = true then ((graftagelaw08_lives.f kj3).bind fun t408 => (some t408)) else (some false)) = some r := H
        have A17 := Aside0.mk A170
        clear A170
        by_cases c18 : t407 = true
        · subst c18
          have H1 : ((graftagelaw08_lives.f kj3).bind fun t408 => (some t408)) = some r := by rw [if_pos rfl] at H; exact H
          clear H
          have H := H1
          clear H1
          replace H := Option.bind_eq_some_iff.mp H
          obtain ⟨t408, A190, H⟩ := H
          replace H : (some t408) = some r := H
          have A19 := Aside0.mk A190
          clear A190
          obtain rfl := Option.some.inj H
          go_wp2_with (first | ((with_reducible refine gate_callee (f := 14) rfl ?_); refine goesL_ (some 35) rfl rfl Try.func14 (by kernel_rfl) rfl #[.slice A2 l2.length c2, .int .i64 (l0.length : Int)] rfl (by (try simp only [List.map_toArray, List.map_cons, List.map_nil]); first | done | rfl | (simp only [List.length_drop, List.length_take]; rfl)) ?_; (with_reducible refine (diff_Unchanged.calls kj3 _ _ l2 (l0.length : Int) t401 _ ?side1 ?side2 A15.out).mono ?_); (case side1 => repeat (first | exact (Kd.C_below HR2.out HB.out) | (with_reducible refine Kd.C_alloc ?_ _) | (with_reducible refine Kd.C_drewN ?_ _) | (with_reducible refine Kd.C_drew ?_))); (case side2 => exact HC2.out); rintro e w20 ⟨v402, rfl, ho0, hb⟩; refine ⟨_, rfl, ?_⟩; have n0_ := Aside0.mk (Kd.R_lower ho0 (below_size (by repeat (first | (with_reducible first | exact HB.out | apply below_alloc | apply pw_below_drewN | apply below_drew1) | exact HB.out)))); have n1_ := Aside0.mk (below_step (by repeat (first | (with_reducible first | exact HB.out | apply below_alloc | apply pw_below_drewN | apply below_drew1) | exact HB.out)) hb); clear HB; have HO403 := n0_; have HB := n1_; clear n0_ n1_; (try clear hb); (try clear hb2); (try clear hk); (try clear hi); (try clear ho0); obtain ⟨Ao21, co21, eo21⟩ := Kd.R_slice HO403.out; subst eo21) | ((with_reducible refine gate_callee (f := 26) rfl ?_); refine goesL_ (some 36) rfl rfl Try.func26 (by kernel_rfl) rfl #[.int .i64 (l0.length : Int), .int .i64 (l1.length : Int), .slice Ao21 t401.length co21] rfl (by (try simp only [List.map_toArray, List.map_cons, List.map_nil]); first | done | rfl | (simp only [List.length_drop, List.length_take]; rfl)) ?_; (with_reducible refine (diff_FromRuns.calls (l0.length : Int) (l1.length : Int) _ _ t401 t404 _ ?side1 ?side2 A16.out).mono ?_); (case side1 => repeat (first | exact (Kd.R_reads' HO403.out).2.2 | (with_reducible refine Kd.C_alloc ?_ _) | (with_reducible refine Kd.C_drewN ?_ _) | (with_reducible refine Kd.C_drew ?_))); (case side2 => exact (Kd.R_reads' HO403.out).2.1); rintro e w22 ⟨v405, rfl, ho0, hb⟩; refine ⟨_, rfl, ?_⟩; have n0_ := Aside0.mk (Kd.R_below (by (with_reducible repeat (first | apply Kd.R_alloc | apply Kd.R_drewN | apply Kd.R_drew)); exact HO403.out) hb); have n1_ := Aside0.mk (Kd.R_lower ho0 (below_size (by repeat (first | (with_reducible first | exact HB.out | apply below_alloc | apply pw_below_drewN | apply below_drew1) | exact HB.out)))); have n2_ := Aside0.mk (below_step (by repeat (first | (with_reducible first | exact HB.out | apply below_alloc | apply pw_below_drewN | apply below_drew1) | exact HB.out)) hb); clear HO403; clear HB; have HO403 := n0_; have HO406 := n1_; have HB := n2_; clear n0_ n1_ n2_; (try clear hb); (try clear hb2); (try clear hk); (try clear hi); (try clear ho0); obtain ⟨Ao23, co23, eo23⟩ := Kd.R_slice HO406.out; subst eo23) | ((with_reducible refine gate_callee (f := 11) rfl ?_); refine goesL_ (some 38) rfl rfl Try.func11 (by kernel_rfl) rfl #[.slice Ao23 t404.length co23, .slice A2 l2.length c2] rfl (by (try simp only [List.map_toArray, List.map_cons, List.map_nil]); first | done | rfl | (simp only [List.length_drop, List.length_take]; rfl)) ?_; (with_reducible refine (graftageref08_Edits.calls kj3 _ _ t404 _ _ l2 true _ ?side1 ?side2 ?side3 ?side4 A17.out).mono ?_); (case side1 => repeat (first | exact (Kd.R_reads' HO406.out).2.2 | (with_reducible refine Kd.C_alloc ?_ _) | (with_reducible refine Kd.C_drewN ?_ _) | (with_reducible refine Kd.C_drew ?_))); (case side2 => exact (Kd.R_reads' HO406.out).2.1); (case side3 => repeat (first | exact (Kd.C_below HR2.out HB.out) | (with_reducible refine Kd.C_alloc ?_ _) | (with_reducible refine Kd.C_drewN ?_ _) | (with_reducible refine Kd.C_drew ?_))); (case side4 => exact HC2.out); rintro e w' ⟨rfl, ⟨nd, rfl⟩⟩; refine ⟨_, rfl, ?_⟩) | (go_at_call 10; (with_reducible refine (graftagelaw08_lives.calls kj3  t408 _ A19.out).mono ?_); rintro e w24 ⟨rfl, hb⟩; have n0_ := Aside0.mk (Kd.R_below (by (with_reducible repeat (first | apply Kd.R_alloc | apply Kd.R_drewN | apply Kd.R_drew)); exact HO403.out) hb); have n1_ := Aside0.mk (Kd.R_below (by (with_reducible repeat (first | apply Kd.R_alloc | apply Kd.R_drewN | apply Kd.R_drew)); exact HO406.out) hb); have n2_ := Aside0.mk (below_step (by repeat (first | (with_reducible first | exact HB.out | apply below_alloc | apply pw_below_drewN | apply below_drew1) | exact HB.out)) hb); clear HO403; clear HO406; clear HB; have HO403 := n0_; have HO406 := n1_; have HB := n2_; clear n0_ n1_ n2_; (try clear hb); (try clear hb2); (try clear hk); (try clear hi)))
          go_ret
          exact ⟨by first | rfl | (simp [errW_none, errW_some] <;> rfl) | (simp [*, errW_none, errW_some] <;> rfl), by repeat (first | (with_reducible first | exact HB.out | apply below_alloc | apply pw_below_drewN | apply below_drew1) | exact HB.out)⟩
        · replace c18 := Bool.eq_false_iff.mpr c18
          subst c18
          have H1 : (some false) = some r := by rw [if_neg (show ¬ (false = true) by decide)] at H; exact H
          clear H
          have H := H1
          clear H1
          obtain rfl := Option.some.inj H
          go_wp2_with (first | ((with_reducible refine gate_callee (f := 14) rfl ?_); refine goesL_ (some 35) rfl rfl Try.func14 (by kernel_rfl) rfl #[.slice A2 l2.length c2, .int .i64 (l0.length : Int)] rfl (by (try simp only [List.map_toArray, List.map_cons, List.map_nil]); first | done | rfl | (simp only [List.length_drop, List.length_take]; rfl)) ?_; (with_reducible refine (diff_Unchanged.calls kj3 _ _ l2 (l0.length : Int) t401 _ ?side1 ?side2 A15.out).mono ?_); (case side1 => repeat (first | exact (Kd.C_below HR2.out HB.out) | (with_reducible refine Kd.C_alloc ?_ _) | (with_reducible refine Kd.C_drewN ?_ _) | (with_reducible refine Kd.C_drew ?_))); (case side2 => exact HC2.out); rintro e w25 ⟨v402, rfl, ho0, hb⟩; refine ⟨_, rfl, ?_⟩; have n0_ := Aside0.mk (Kd.R_lower ho0 (below_size (by repeat (first | (with_reducible first | exact HB.out | apply below_alloc | apply pw_below_drewN | apply below_drew1) | exact HB.out)))); have n1_ := Aside0.mk (below_step (by repeat (first | (with_reducible first | exact HB.out | apply below_alloc | apply pw_below_drewN | apply below_drew1) | exact HB.out)) hb); clear HB; have HO403 := n0_; have HB := n1_; clear n0_ n1_; (try clear hb); (try clear hb2); (try clear hk); (try clear hi); (try clear ho0); obtain ⟨Ao26, co26, eo26⟩ := Kd.R_slice HO403.out; subst eo26) | ((with_reducible refine gate_callee (f := 26) rfl ?_); refine goesL_ (some 36) rfl rfl Try.func26 (by kernel_rfl) rfl #[.int .i64 (l0.length : Int), .int .i64 (l1.length : Int), .slice Ao26 t401.length co26] rfl (by (try simp only [List.map_toArray, List.map_cons, List.map_nil]); first | done | rfl | (simp only [List.length_drop, List.length_take]; rfl)) ?_; (with_reducible refine (diff_FromRuns.calls (l0.length : Int) (l1.length : Int) _ _ t401 t404 _ ?side1 ?side2 A16.out).mono ?_); (case side1 => repeat (first | exact (Kd.R_reads' HO403.out).2.2 | (with_reducible refine Kd.C_alloc ?_ _) | (with_reducible refine Kd.C_drewN ?_ _) | (with_reducible refine Kd.C_drew ?_))); (case side2 => exact (Kd.R_reads' HO403.out).2.1); rintro e w27 ⟨v405, rfl, ho0, hb⟩; refine ⟨_, rfl, ?_⟩; have n0_ := Aside0.mk (Kd.R_below (by (with_reducible repeat (first | apply Kd.R_alloc | apply Kd.R_drewN | apply Kd.R_drew)); exact HO403.out) hb); have n1_ := Aside0.mk (Kd.R_lower ho0 (below_size (by repeat (first | (with_reducible first | exact HB.out | apply below_alloc | apply pw_below_drewN | apply below_drew1) | exact HB.out)))); have n2_ := Aside0.mk (below_step (by repeat (first | (with_reducible first | exact HB.out | apply below_alloc | apply pw_below_drewN | apply below_drew1) | exact HB.out)) hb); clear HO403; clear HB; have HO403 := n0_; have HO406 := n1_; have HB := n2_; clear n0_ n1_ n2_; (try clear hb); (try clear hb2); (try clear hk); (try clear hi); (try clear ho0); obtain ⟨Ao28, co28, eo28⟩ := Kd.R_slice HO406.out; subst eo28) | ((with_reducible refine gate_callee (f := 11) rfl ?_); refine goesL_ (some 38) rfl rfl Try.func11 (by kernel_rfl) rfl #[.slice Ao28 t404.length co28, .slice A2 l2.length c2] rfl (by (try simp only [List.map_toArray, List.map_cons, List.map_nil]); first | done | rfl | (simp only [List.length_drop, List.length_take]; rfl)) ?_; (with_reducible refine (graftageref08_Edits.calls kj3 _ _ t404 _ _ l2 false _ ?side1 ?side2 ?side3 ?side4 A17.out).mono ?_); (case side1 => repeat (first | exact (Kd.R_reads' HO406.out).2.2 | (with_reducible refine Kd.C_alloc ?_ _) | (with_reducible refine Kd.C_drewN ?_ _) | (with_reducible refine Kd.C_drew ?_))); (case side2 => exact (Kd.R_reads' HO406.out).2.1); (case side3 => repeat (first | exact (Kd.C_below HR2.out HB.out) | (with_reducible refine Kd.C_alloc ?_ _) | (with_reducible refine Kd.C_drewN ?_ _) | (with_reducible refine Kd.C_drew ?_))); (case side4 => exact HC2.out); rintro e w' ⟨rfl, ⟨nd, rfl⟩⟩; refine ⟨_, rfl, ?_⟩))
          go_ret
          exact ⟨by first | rfl | (simp [errW_none, errW_some] <;> rfl) | (simp [*, errW_none, errW_some] <;> rfl), by repeat (first | (with_reducible first | exact HB.out | apply below_alloc | apply pw_below_drewN | apply below_drew1) | exact HB.out)⟩

end Go.Proofs.Ytikepmdhnbnohaa.P
end
-- text YtikepmdhnbnohaaOpens
section
/- Arguments of a law opened to the printed kinds: what the form's reading says of a value of a type, told as the kind that the printed contracts use. One lemma a kind (whole numbers, bools, strings, slices, structs), for whatever nesting. Conditions: none. -/
namespace Go.Proofs.Ytikepmdhnbnohaa.Op
open Go.RowKit Go.Proofs.YtikepmdhnbnohaaW.PrintWords

/-- A value of type t reads as a datum of kind kd that is good. -/
structure Opens {α : Type} (P : Program) (t : TypeId) (kd : Kd α) (G : α → Prop) : Prop where
  size : P.cellsOf t = kd.sz
  out : ∀ {H : Type} {enc : TypeId × Value → H} {w : World} {held : Bool} {fuel : Nat} {cs : List Value} {x : DataW H × List MemPlace}, DataW.trod enc P w 0 (fun _ => true) held fuel t cs = some x →
    (∀ n ∈ x.1.weights P t, n ≤ reachBytes) → ∃ a : α, kd.K w a cs ∧ G a

theorem opens_int {P : Program} {t : TypeId} {k : IntKind} (ht : P.underlying t = some (.int k)) (hs : P.cellsOf t = 1) : Opens P t (Kd.int k) (fun x => (Lit.int k x).wf = true) where
  size := hs
  out := by
    intro H enc w held fuel cs x h _
    obtain ⟨n, rfl, _, hw⟩ := DataW.trod_int ht h
    exact ⟨n, rfl, hw⟩
theorem opens_string {P : Program} {t : TypeId} (ht : P.underlying t = some .string) (hs : P.cellsOf t = 1) : Opens P t Kd.string (fun s => s.size ≤ 140737488351232) where
  size := hs
  out := by
    intro H enc w held fuel cs x h hw
    obtain ⟨s, rfl, rfl, _⟩ := DataW.trod_string ht h
    refine ⟨s, rfl, ?_⟩
    have z := hw s.data.toList.length (by simp [DataW.weights])
    simpa [reachBytes] using z

theorem weights_all {H : Type} {P : Program} {e : TypeId} : ∀ {l : List (DataW H)} {d : DataW H}, d ∈ l → ∀ n ∈ d.weights P e, n ∈ DataW.weightsAll P e l
  | [], _, h, _, _ => by cases h
  | x :: l, d, h, n, hn => by
    simp only [DataW.weightsAll, List.mem_append]
    rcases List.mem_cons.1 h with rfl | h
    · exact .inl hn
    · exact .inr (weights_all h n hn)

theorem opens_slice {α : Type} {P : Program} {t e : TypeId} {kd : Kd α} {G : α → Prop} (B : Nat) (ht : P.underlying t = some (.slice e)) (hs : P.cellsOf t = 1) (hB : P.bytesOf e = B) (ho : Opens P e kd G) :
    Opens P t (Kd.slice e kd) (fun l => l.length * B ≤ 140737488351232 ∧ ∀ x ∈ l, G x) where
  size := hs
  out := by
    intro H enc w held fuel cs x h hw
    rcases DataW.trod_slice ht h with ⟨rfl, rfl⟩ | ⟨a, len, cap, elems, rest, n, rfl, rfl, rfl, _, hl, hm, hlen, hel, _, _⟩
    · exact ⟨[], ⟨none, 0, rfl, Nat.le_refl _, rfl, Nat.zero_le _, fun h => absurd h (by simp)⟩, by simp, by simp⟩
    · have each : ∀ i, i < len → ∃ (z : α) (c : List Value), c.length = kd.sz ∧ kd.K w z c ∧ G z ∧ ∀ j u, c[j]? = some u → w.cell? (a.add (i * kd.sz + j)) = some u := by
        intro i hi
        have h1 := hel i hi
        have hil : i < elems.length := by omega
        rw [List.getElem?_eq_getElem hil, Option.bind_eq_some_iff] at h1
        obtain ⟨c, hc, hy⟩ := h1
        obtain ⟨z, hz, hg⟩ := ho.out hy (fun n hn => hw n (by
          simp only [DataW.weights, ht, List.mem_cons, List.mem_append]
          exact .inr (.inl (weights_all (List.mem_map.2 ⟨_, List.getElem_mem hil, rfl⟩) n hn))))
        obtain ⟨_, hcl, hcell⟩ := World.cells?_some hc
        rw [ho.size] at hcl hcell
        refine ⟨z, c, hcl, hz, hg, fun j u hu => ?_⟩
        have hj : j < c.length := (List.getElem?_eq_some_iff.1 hu).1
        have := hcell j (by omega)
        rw [← hu, ← this, Go.Deep.add_add]
      have pick : ∀ m, m ≤ len → ∃ zs : List α, zs.length = m ∧ (∀ x ∈ zs, G x) ∧ ∀ i p, zs[i]? = some p → ∃ c, c.length = kd.sz ∧ kd.K w p c ∧ ∀ j u, c[j]? = some u → w.cell? (a.add (i * kd.sz + j)) = some u := by
        intro m
        induction m with
        | zero => exact fun _ => ⟨[], rfl, by simp, by simp⟩
        | succ m ih =>
          intro hm'
          obtain ⟨zs, h1, h2, h3⟩ := ih (by omega)
          obtain ⟨z, c, hcl, hz, hg, hcell⟩ := each m (by omega)
          refine ⟨zs ++ [z], by simp [h1], fun x hx => ?_, fun i p hp => ?_⟩
          · rcases List.mem_append.1 hx with hx | hx
            · exact h2 x hx
            · rw [List.mem_singleton.1 hx]
              exact hg
          · rcases Nat.lt_or_ge i zs.length with hi | hi
            · rw [List.getElem?_append_left hi] at hp
              exact h3 i p hp
            · have hi' : i = zs.length := by
                have := (List.getElem?_eq_some_iff.1 hp).1
                simp at this
                omega
              subst hi'
              have hp' : z = p := by simpa using hp
              subst hp'
              rw [h1]
              exact ⟨c, hcl, hz, hcell⟩
      obtain ⟨zs, hzl, hG, hat⟩ := pick len (Nat.le_refl _)
      have hwt := hw ((elems.length + rest.length) * P.bytesOf e) (by simp [DataW.weights, ht])
      refine ⟨zs, ⟨some a, cap, by rw [hzl], by omega, ?_⟩, ?_, hG⟩
      · exact ⟨rfl, by rw [hzl]; exact Nat.le_trans hl (by simpa [maxLen] using hm), fun _ => ⟨a, rfl, hat⟩⟩
      · rw [hB] at hwt
        rw [hzl, ← hlen]
        exact Nat.le_trans (Nat.mul_le_mul_right _ (Nat.le_add_right _ _)) (by simpa [reachBytes] using hwt)

/-- A struct's fields from place o on. -/
structure OpensF {α : Type} (P : Program) (fs : List Field) (o : Nat) (kd : Kd α) (G : α → Prop) : Prop where
  out : ∀ {H : Type} {enc : TypeId × Value → H} {w : World} {held : Bool} {n : Nat} {cs : List Value} {xs : List (DataW H × List MemPlace)}, cs.length = o + kd.sz → xs.length = fs.length →
    (∀ (i : Nat) (f : Field), fs[i]? = some f → DataW.trod enc P w 0 (fun _ => true) held n f.type ((cs.drop f.offset).take (P.cellsOf f.type)) = xs[i]?) →
    (∀ n ∈ DataW.weightsEach P (fs.map (·.type)) (xs.map (·.1)), n ≤ reachBytes) → ∃ a : α, kd.K w a (cs.drop o) ∧ G a
theorem opensF_one {α : Type} {P : Program} {f : Field} {kd : Kd α} {G : α → Prop} {o : Nat} (hoff : f.offset = o) (ho : Opens P f.type kd G) : OpensF P [f] o kd G where
  out := by
    subst hoff
    intro H enc w held n cs xs hl hx hf hw
    match xs, hx with
    | [x], _ =>
      have h1 := hf 0 f rfl
      simp only [List.getElem?_cons_zero] at h1
      obtain ⟨a, hk, hg⟩ := ho.out h1 (fun n hn => hw n (by simp only [List.map_cons, DataW.weightsEach, List.mem_append]; exact .inl hn))
      rw [ho.size, List.take_of_length_le (by rw [List.length_drop]; omega)] at hk
      exact ⟨a, hk, hg⟩
theorem opensF_cons {α β : Type} {P : Program} {f : Field} {fs : List Field} {kd : Kd α} {kr : Kd β} {G : α → Prop} {Gr : β → Prop} {o : Nat} (hoff : f.offset = o) (ho : Opens P f.type kd G) (hr : OpensF P fs (o + kd.sz) kr Gr) :
    OpensF P (f :: fs) o (Kd.pair kd kr) (fun x => G x.1 ∧ Gr x.2) where
  out := by
    subst hoff
    intro H enc w held n cs xs hl hx hf hw
    match xs, hx with
    | x :: xs, hx =>
      have h1 := hf 0 f rfl
      simp only [List.getElem?_cons_zero] at h1
      obtain ⟨a, hk, hg⟩ := ho.out h1 (fun n hn => hw n (by simp only [List.map_cons, DataW.weightsEach, List.mem_append]; exact .inl hn))
      have hl' : cs.length = f.offset + (kd.sz + kr.sz) := hl
      obtain ⟨b, hkb, hgb⟩ := hr.out (cs := cs) (xs := xs) (by omega) (by simpa using hx) (fun i g hi => by simpa using hf (i + 1) g (by simpa using hi)) (fun n hn => hw n (by simp only [List.map_cons, DataW.weightsEach, List.mem_append]; exact .inr hn))
      refine ⟨(a, b), ⟨_, _, ?_, hk, hkb⟩, hg, hgb⟩
      rw [ho.size, ← List.drop_drop, List.take_append_drop]
theorem opens_struct {α β : Type} {P : Program} {t : TypeId} {fs : Array Field} {kd : Kd α} {G : α → Prop} (f : β → α) (hsur : ∀ a, ∃ b, f b = a) (ht : P.underlying t = some (.struct fs)) (hs : P.cellsOf t = kd.sz) (ho : OpensF P fs.toList 0 kd G) :
    Opens P t (Kd.iso kd f) (fun x => G (f x)) where
  size := hs
  out := by
    intro H enc w held fuel cs x h hw
    obtain ⟨xs, n, rfl, rfl, hl, hx, hf⟩ := DataW.trod_struct ht h
    obtain ⟨a, hk, hg⟩ := ho.out (by rw [hl, hs]; omega) (by simpa using hx) (fun i f hi => hf i f (by simpa using hi)) (fun n hn => hw n (by simp only [DataW.weights, ht]; exact hn))
    obtain ⟨b, rfl⟩ := hsur a
    rw [List.drop_zero] at hk
    exact ⟨b, hk, hg⟩
theorem Opens.weaken {α : Type} {P : Program} {t : TypeId} {kd : Kd α} {G G' : α → Prop} (h : Opens P t kd G) (hg : ∀ x, G x → G' x) : Opens P t kd G' where
  size := h.size
  out := fun h1 h2 => by
    obtain ⟨a, hk, hG⟩ := h.out h1 h2
    exact ⟨a, hk, hg a hG⟩
/-- A slice argument. -/
theorem slice_arg {α : Type} {e : TypeId} {kd : Kd α} {w : World} {a : Option Addr} {len cap : Nat} {xs : List α} (h : (Kd.slice e kd).K w xs (Value.slice a len cap).cells.toList) : len = xs.length ∧ xs.length ≤ cap ∧ kd.C w a xs.length xs := by
  obtain ⟨A, c, h1, h2, h3⟩ := h
  have h0 : [Value.slice a len cap] = [.slice A xs.length c] := h1
  injection h0 with h0
  injection h0 with ha hb hc
  subst ha hb hc
  exact ⟨rfl, h2, h3⟩
end Go.Proofs.Ytikepmdhnbnohaa.Op
end
-- text YtikepmdhnbnohaaPOp
section
-- written by mp.py, a program of this session, over the kit's printer
namespace Go.Proofs.Ytikepmdhnbnohaa.P
open Go.RowKit Go.Proofs.Ytikepmdhnbnohaa.Op Go.Proofs.YtikepmdhnbnohaaW.PrintWords
set_option linter.unusedVariables false
def Good44 (x : S44) : Prop := (Lit.int .i64 x.f0).wf = true ∧ (Lit.int .i64 x.f1).wf = true ∧ (Lit.int .i64 x.f2).wf = true ∧ (Lit.int .i64 x.f3).wf = true
theorem op44 : Opens Try.prog 44 k44 Good44 := (opens_struct (fun x : S44 => (x.f0, x.f1, x.f2, x.f3)) (by rintro ⟨a0, a1, a2, a3⟩; exact ⟨⟨a0, a1, a2, a3⟩, rfl⟩) Try.underlying44 (by kernel_rfl) (opensF_cons rfl (opens_int Try.underlying3 (by kernel_rfl) : Opens Try.prog 3 (Kd.int .i64) _) (opensF_cons rfl (opens_int Try.underlying3 (by kernel_rfl) : Opens Try.prog 3 (Kd.int .i64) _) (opensF_cons rfl (opens_int Try.underlying3 (by kernel_rfl) : Opens Try.prog 3 (Kd.int .i64) _) (opensF_one rfl (opens_int Try.underlying3 (by kernel_rfl) : Opens Try.prog 3 (Kd.int .i64) _)))))).weaken (fun x hx => hx)
end Go.Proofs.Ytikepmdhnbnohaa.P
end
-- text YtikepmdhnbnohaaSDiffStay
section
-- written by mp.py, a program of this session, over the kit's printer
namespace Go.Proofs.Ytikepmdhnbnohaa.P
open Go.RowKit Go.Proofs.YtikepmdhnbnohaaW.PrintWords
/-- The one plain statement of the law DiffStay. -/
def graftagelaw08_DiffStay.Pure : Prop := ∀ (l0 : List ByteArray) (l1 : List ByteArray) (l2 : List (S44)), (l0.length * 16 ≤ 140737488351232 ∧ ∀ x_ ∈ l0, x_.size ≤ 140737488351232) → (l1.length * 16 ≤ 140737488351232 ∧ ∀ x_ ∈ l1, x_.size ≤ 140737488351232) → (l2.length * 32 ≤ 140737488351232 ∧ ∀ x_ ∈ l2, Good44 x_) → ∃ k, graftagelaw08_DiffStay.f k l0 l1 l2 = some true
end Go.Proofs.Ytikepmdhnbnohaa.P
end
-- text YtikepmdhnbnohaaPx9
section
-- written by mp.py, a program of this session, over the kit's printer
namespace Go.Proofs.Ytikepmdhnbnohaa.P
open Go.RowKit Go.Proofs.YtikepmdhnbnohaaW.PrintWords Go.Proofs.YtikepmdhnbnohaaW.PrintLast Go.Proofs.YtikepmdhnbnohaaW.PrintMore
attribute [local go_sem] max2_int min2_int max_two min_two max_three min_three max_four min_four   -- for this text's walks alone
set_option linter.unusedVariables false
set_option linter.unusedSimpArgs false

/-! ### graftageref08_Same: function 21 -/
-- NOT PRINTED: function 32 (graftageref08_table)

/-! ### graftageref08_add: function 33 -/
-- NOT PRINTED: function 13 (graftageref08_Least)

-- NOT PRINTED: function 3 (graftagelaw08_DiffLeast)

end Go.Proofs.Ytikepmdhnbnohaa.P
end
-- text YtikepmdhnbnohaaPx11
section
-- written by mp.py, a program of this session, over the kit's printer
namespace Go.Proofs.Ytikepmdhnbnohaa.P
open Go.RowKit Go.Proofs.YtikepmdhnbnohaaW.PrintWords Go.Proofs.YtikepmdhnbnohaaW.PrintLast Go.Proofs.YtikepmdhnbnohaaW.PrintMore
attribute [local go_sem] max2_int min2_int max_two min_two max_three min_three max_four min_four   -- for this text's walks alone
set_option linter.unusedVariables false
set_option linter.unusedSimpArgs false

/-! ### graftageref08_Right: function 15 -/
end Go.Proofs.Ytikepmdhnbnohaa.P
end
-- text YtikepmdhnbnohaaPx14
section
-- written by mp.py, a program of this session, over the kit's printer
namespace Go.Proofs.Ytikepmdhnbnohaa.P
open Go.RowKit Go.Proofs.YtikepmdhnbnohaaW.PrintWords Go.Proofs.YtikepmdhnbnohaaW.PrintLast Go.Proofs.YtikepmdhnbnohaaW.PrintMore
attribute [local go_sem] max2_int min2_int max_two min_two max_three min_three max_four min_four   -- for this text's walks alone
set_option linter.unusedVariables false
set_option linter.unusedSimpArgs false

/-! ### diff_Apply: function 17 -/
end Go.Proofs.Ytikepmdhnbnohaa.P
end
-- text YtikepmdhnbnohaaPx15
section
-- written by mp.py, a program of this session, over the kit's printer
namespace Go.Proofs.Ytikepmdhnbnohaa.P
open Go.RowKit Go.Proofs.YtikepmdhnbnohaaW.PrintWords Go.Proofs.YtikepmdhnbnohaaW.PrintLast Go.Proofs.YtikepmdhnbnohaaW.PrintMore
attribute [local go_sem] max2_int min2_int max_two min_two max_three min_three max_four min_four   -- for this text's walks alone
set_option linter.unusedVariables false
set_option linter.unusedSimpArgs false

/-! ### graftageref08_Apply: function 18 -/
end Go.Proofs.Ytikepmdhnbnohaa.P
end
-- text YtikepmdhnbnohaaPx17
section
-- written by mp.py, a program of this session, over the kit's printer
namespace Go.Proofs.Ytikepmdhnbnohaa.P
open Go.RowKit Go.Proofs.YtikepmdhnbnohaaW.PrintWords Go.Proofs.YtikepmdhnbnohaaW.PrintLast Go.Proofs.YtikepmdhnbnohaaW.PrintMore
attribute [local go_sem] max2_int min2_int max_two min_two max_three min_three max_four min_four   -- for this text's walks alone
set_option linter.unusedVariables false
set_option linter.unusedSimpArgs false

/-! ### graftageref08_Cost: function 20 -/
end Go.Proofs.Ytikepmdhnbnohaa.P
end
-- text YtikepmdhnbnohaaPlBase
section
/- Plain facts on numbers and lists that the plain proofs of this seat share. Conditions: none. -/
namespace Go.Proofs.Ytikepmdhnbnohaa.Pl
open Go.RowKit Go.Proofs.YtikepmdhnbnohaaW.PrintWords
theorem w64 {n : Int} (h1 : -9223372036854775808 ≤ n) (h2 : n ≤ 9223372036854775807) : wrap64 n = n := by unfold wrap64; omega
theorem wfI {x : Int} (h : (Lit.int .i64 x).wf = true) : -9223372036854775808 ≤ x ∧ x ≤ 9223372036854775807 := by
  simp only [Lit.wf, Bool.and_eq_true, decide_eq_true_eq] at h
  have e1 : IntKind.i64.min = -9223372036854775808 := by decide
  have e2 : IntKind.i64.max = 9223372036854775807 := by decide
  rw [e1, e2] at h
  exact h
theorem tl_inj {a b : ByteArray} : a.toList = b.toList ↔ a = b := by
  constructor
  · intro h
    rw [ByteArray.toList_eq, ByteArray.toList_eq] at h
    cases a
    cases b
    simp only at h
    rw [Array.toList_inj.1 h]
  · intro h
    rw [h]
theorem Ev.some_ {α : Type} {r : α} {g : Nat → Option α} (h : ∀ k, g k = some r) : Ev g r := ⟨0, fun k _ => h k⟩
/-- A loop's end: one round answers. -/
theorem Ev.end_ {α : Type} {g : Nat → Option α} {r : α} (h : ∀ k, g (k + 1) = some r) : Ev g r := Ev.step h (Ev.now r)
end Go.Proofs.Ytikepmdhnbnohaa.Pl
end
-- text YtikepmdhnbnohaaPlLcs
section
/- The greatest number of lines that stay (lcs), alignments of two lists, the greedy one, and that it is best. No program in sight. Conditions: none. -/
namespace Go.Proofs.Ytikepmdhnbnohaa.Pl
open Go.RowKit Go.Proofs.YtikepmdhnbnohaaW.PrintWords
variable {α : Type} [DecidableEq α]
def lcs : List α → List α → Nat
  | [], _ => 0
  | _ :: _, [] => 0
  | x :: a, y :: b => if x = y then lcs a b + 1 else max (lcs a (y :: b)) (lcs (x :: a) b)
termination_by a b => a.length + b.length
theorem lcs_nil (b : List α) : lcs [] b = 0 := by unfold lcs; rfl
theorem lcs_nil2 (a : List α) : lcs a [] = 0 := by cases a <;> (unfold lcs; rfl)
theorem lcs_same (x : α) (a b : List α) : lcs (x :: a) (x :: b) = lcs a b + 1 := by rw [lcs, if_pos rfl]
theorem lcs_ne {x y : α} (h : x ≠ y) (a b : List α) : lcs (x :: a) (y :: b) = max (lcs a (y :: b)) (lcs (x :: a) b) := by rw [lcs, if_neg h]
theorem lcs_le_both : ∀ n (a b : List α), a.length + b.length ≤ n → (∀ x, lcs a b ≤ lcs (x :: a) b ∧ lcs (x :: a) b ≤ lcs a b + 1) ∧ (∀ y, lcs a b ≤ lcs a (y :: b) ∧ lcs a (y :: b) ≤ lcs a b + 1) := by
  intro n
  induction n with
  | zero =>
    intro a b h
    have ha : a = [] := List.eq_nil_of_length_eq_zero (by omega)
    have hb : b = [] := List.eq_nil_of_length_eq_zero (by omega)
    subst ha hb
    exact ⟨fun x => by simp [lcs_nil2], fun y => by simp [lcs_nil]⟩
  | succ n ih =>
    intro a b h
    refine ⟨fun x => ?_, fun y => ?_⟩
    · cases b with
      | nil => simp [lcs_nil2]
      | cons y b =>
        have hb := (ih a b (by simp at h; omega)).2 y
        by_cases e : x = y
        · subst e
          rw [lcs_same]
          omega
        · rw [lcs_ne e]
          have hx := (ih a b (by simp at h; omega)).1 x
          omega
    · cases a with
      | nil => simp [lcs_nil]
      | cons x a =>
        have ha := (ih a b (by simp at h; omega)).1 x
        by_cases e : x = y
        · subst e
          rw [lcs_same]
          omega
        · rw [lcs_ne e]
          have hy := (ih a b (by simp at h; omega)).2 y
          omega
theorem lcs_le_left : ∀ n (a b : List α), a.length + b.length ≤ n → lcs a b ≤ a.length ∧ lcs a b ≤ b.length := by
  intro n
  induction n with
  | zero =>
    intro a b h
    have ha : a = [] := List.eq_nil_of_length_eq_zero (by omega)
    subst ha
    simp [lcs_nil]
  | succ n ih =>
    intro a b h
    cases a with
    | nil => simp [lcs_nil]
    | cons x a =>
      cases b with
      | nil => simp [lcs_nil2]
      | cons y b =>
        simp only [List.length_cons] at h ⊢
        by_cases e : x = y
        · subst e
          rw [lcs_same]
          have := ih a b (by omega)
          omega
        · rw [lcs_ne e]
          have h1 := ih a (y :: b) (by simp; omega)
          have h2 := ih (x :: a) b (by simp; omega)
          simp only [List.length_cons] at h1 h2
          omega
theorem lcs_le (a b : List α) : lcs a b ≤ a.length ∧ lcs a b ≤ b.length := lcs_le_left _ a b (Nat.le_refl _)
/-- What becomes of a line: it stays, goes, or comes. -/
inductive Op where
  | K | D | I
deriving DecidableEq
/-- An alignment of two lists. -/
inductive Al : List α → List α → List Op → Prop where
  | nil : Al [] [] []
  | keep (x : α) {a b : List α} {o : List Op} (h : Al a b o) : Al (x :: a) (x :: b) (Op.K :: o)
  | del (x : α) {a b : List α} {o : List Op} (h : Al a b o) : Al (x :: a) b (Op.D :: o)
  | ins (y : α) {a b : List α} {o : List Op} (h : Al a b o) : Al a (y :: b) (Op.I :: o)
def kept (o : List Op) : Nat := o.countP (· == Op.K)
def paid (o : List Op) : Nat := o.countP (· != Op.K)
theorem kept_K (o : List Op) : kept (Op.K :: o) = kept o + 1 := by simp [kept]
theorem kept_D (o : List Op) : kept (Op.D :: o) = kept o := by simp [kept]
theorem kept_I (o : List Op) : kept (Op.I :: o) = kept o := by simp [kept]
theorem paid_K (o : List Op) : paid (Op.K :: o) = paid o := by simp [paid]
theorem paid_D (o : List Op) : paid (Op.D :: o) = paid o + 1 := by simp [paid]
theorem paid_I (o : List Op) : paid (Op.I :: o) = paid o + 1 := by simp [paid]
omit [DecidableEq α] in
theorem Al.lens {a b : List α} {o : List Op} (h : Al a b o) : paid o + 2 * kept o = a.length + b.length := by
  induction h with
  | nil => simp [paid, kept]
  | keep x h ih => rw [kept_K, paid_K]; simp only [List.length_cons]; omega
  | del x h ih => rw [kept_D, paid_D]; simp only [List.length_cons]; omega
  | ins y h ih => rw [kept_I, paid_I]; simp only [List.length_cons]; omega
/-- The alignment that one rule tells. -/
def greedy : List α → List α → List Op
  | [], [] => []
  | _ :: a, [] => Op.D :: greedy a []
  | [], _ :: b => Op.I :: greedy [] b
  | x :: a, y :: b => if x = y then Op.K :: greedy a b else if lcs (x :: a) b ≤ lcs a (y :: b) then Op.D :: greedy a (y :: b) else Op.I :: greedy (x :: a) b
termination_by a b => a.length + b.length
theorem greedy_al : ∀ n (a b : List α), a.length + b.length ≤ n → Al a b (greedy a b) ∧ kept (greedy a b) = lcs a b := by
  intro n
  induction n with
  | zero =>
    intro a b h
    have ha : a = [] := List.eq_nil_of_length_eq_zero (by omega)
    have hb : b = [] := List.eq_nil_of_length_eq_zero (by omega)
    subst ha hb
    rw [greedy]
    exact ⟨Al.nil, by simp [kept, lcs_nil]⟩
  | succ n ih =>
    intro a b h
    cases a with
    | nil =>
      cases b with
      | nil => rw [greedy]; exact ⟨Al.nil, by simp [kept, lcs_nil]⟩
      | cons y b =>
        have := ih [] b (by simp at h ⊢; omega)
        rw [greedy, kept_I, this.2]
        exact ⟨Al.ins y this.1, by rw [lcs_nil, lcs_nil]⟩
    | cons x a =>
      cases b with
      | nil =>
        have := ih a [] (by simp at h ⊢; omega)
        rw [greedy, kept_D, this.2]
        exact ⟨Al.del x this.1, by rw [lcs_nil2, lcs_nil2]⟩
      | cons y b =>
        simp only [List.length_cons] at h
        rw [greedy]
        by_cases e : x = y
        · subst e
          have := ih a b (by omega)
          rw [if_pos rfl, kept_K, lcs_same, this.2]
          exact ⟨Al.keep x this.1, rfl⟩
        · rw [if_neg e, lcs_ne e]
          by_cases c : lcs (x :: a) b ≤ lcs a (y :: b)
          · have := ih a (y :: b) (by simp; omega)
            rw [if_pos c, kept_D, this.2]
            exact ⟨Al.del x this.1, by omega⟩
          · have := ih (x :: a) b (by simp; omega)
            rw [if_neg c, kept_I, this.2]
            exact ⟨Al.ins y this.1, by omega⟩
theorem greedy_is (a b : List α) : Al a b (greedy a b) := (greedy_al _ a b (Nat.le_refl _)).1
end Go.Proofs.Ytikepmdhnbnohaa.Pl
end
-- text YtikepmdhnbnohaaPlScr
section
/- Edit scripts: what a valid one is, its cost, its inverse, and the script of an alignment. No program in sight. Conditions: none. -/
namespace Go.Proofs.Ytikepmdhnbnohaa.Pl
open Go.RowKit Go.Proofs.YtikepmdhnbnohaaW.PrintWords Go.Proofs.Ytikepmdhnbnohaa.P
set_option linter.unusedSimpArgs false
set_option linter.unusedVariables false
abbrev Ed := S44
/-- A valid script of a list to another one, from two places on; 'f': nothing stands ahead of it. -/
inductive Scr {α : Type} : Bool → Int → Int → List α → List α → List Ed → Prop where
  | nil (f : Bool) (i j : Int) (a : List α) : Scr f i j a a []
  | edit (f : Bool) (i j : Int) (c d e a b : List α) (l : List Ed) (h1 : f = true ∨ c ≠ []) (h2 : d ≠ [] ∨ e ≠ []) (h : Scr false (i + c.length + d.length) (j + c.length + e.length) a b l) :
      Scr f i j (c ++ (d ++ a)) (c ++ (e ++ b)) (⟨i + c.length, d.length, j + c.length, e.length⟩ :: l)
def cost (l : List Ed) : Int := (l.map fun e => e.f1 + e.f3).foldr (· + ·) 0
theorem cost_nil : cost [] = 0 := rfl
theorem cost_cons (e : Ed) (l : List Ed) : cost (e :: l) = e.f1 + e.f3 + cost l := rfl
/-- The script of an alignment: 'cur' is the edit that is under way. -/
def scr : List Op → Int → Int → Option Ed → List Ed
  | [], _, _, cur => cur.toList
  | Op.K :: o, i, j, cur => cur.toList ++ scr o (i + 1) (j + 1) none
  | Op.D :: o, i, j, none => scr o (i + 1) j (some ⟨i, 1, j, 0⟩)
  | Op.D :: o, i, j, some e => scr o (i + 1) j (some ⟨e.f0, e.f1 + 1, e.f2, e.f3⟩)
  | Op.I :: o, i, j, none => scr o i (j + 1) (some ⟨i, 0, j, 1⟩)
  | Op.I :: o, i, j, some e => scr o i (j + 1) (some ⟨e.f0, e.f1, e.f2, e.f3 + 1⟩)
end Go.Proofs.Ytikepmdhnbnohaa.Pl
end
-- text YtikepmdhnbnohaaPlTable
section
/- The table that diff makes: its entries are the greatest numbers of lines that stay. And what Least's second loop comes to: the edits of the greedy alignment. Conditions: lists of at most 4096 lines. -/
namespace Go.Proofs.Ytikepmdhnbnohaa.Pl
open Go.RowKit Go.Proofs.YtikepmdhnbnohaaW.PrintWords Go.Proofs.Ytikepmdhnbnohaa.P
set_option linter.unusedSimpArgs false
set_option linter.unusedVariables false
/-- Entry (i, j) of a table. -/
def ent (T : List (List Int)) (i j : Nat) : Int := (T.getD i []).getD j 0
def row (T : List (List Int)) (i : Nat) : List Int := T.getD i []
theorem ent_row (T : List (List Int)) (i j : Nat) : ent T i j = (row T i).getD j 0 := rfl
theorem rd_row (T : List (List Int)) (i : Nat) : rd_L2 T (i : Int) = row T i := by unfold rd_L2 row; rw [Int.toNat_natCast]
theorem rd_nat (l : List Int) (j : Nat) : rd l (j : Int) = l.getD j 0 := by unfold rd; rw [Int.toNat_natCast]
theorem row_set (T : List (List Int)) (i r : Nat) (v : List Int) (hi : i < T.length) : row (T.set i v) r = if r = i then v else row T r := by
  unfold row
  simp only [List.getD_eq_getElem?_getD, List.getElem?_set]
  by_cases e : i = r
  · subst e
    simp [hi]
  · rw [if_neg e, if_neg (Ne.symm e)]
theorem getD_set (l : List Int) (j c : Nat) (v : Int) (hj : j < l.length) : (l.set j v).getD c 0 = if c = j then v else l.getD c 0 := by
  simp only [List.getD_eq_getElem?_getD, List.getElem?_set]
  by_cases e : j = c
  · subst e
    simp [hj]
  · rw [if_neg e, if_neg (Ne.symm e)]
/-- Rows of the right lengths. -/
def Sized (T : List (List Int)) (n m : Nat) : Prop := T.length = n + 1 ∧ ∀ r, r ≤ n → (row T r).length = m + 1
/-- Rows above i are right, row i from column j on, all else is 0. -/
def Right (a b : List ByteArray) (T : List (List Int)) (i j : Nat) : Prop :=
  ∀ r c, r ≤ a.length → c ≤ b.length → (i < r ∨ (r = i ∧ j ≤ c) → ent T r c = (lcs (a.drop r) (b.drop c) : Nat)) ∧ (¬ (i < r ∨ (r = i ∧ j ≤ c)) → ent T r c = 0)
def IsTab (a b : List ByteArray) (T : List (List Int)) : Prop := Sized T a.length b.length ∧ ∀ r c, r ≤ a.length → c ≤ b.length → ent T r c = (lcs (a.drop r) (b.drop c) : Nat)
theorem lcs_bound (a b : List ByteArray) (ha : a.length ≤ 4096) (r c : Nat) : ((lcs (a.drop r) (b.drop c) : Nat) : Int) ≤ 4096 := by
  have := (lcs_le (a.drop r) (b.drop c)).1
  rw [List.length_drop] at this
  omega
/-- One entry more. -/
theorem Right.put {a b : List ByteArray} {T : List (List Int)} {i j : Nat} (hS : Sized T a.length b.length) (h : Right a b T i (j + 1)) (hi : i < a.length) (hj : j < b.length) (v : Int) (hv : v = (lcs (a.drop i) (b.drop j) : Nat)) :
    Sized (T.set i ((row T i).set j v)) a.length b.length ∧ Right a b (T.set i ((row T i).set j v)) i j := by
  have hl : i < T.length := by rw [hS.1]; omega
  have hr : (row T i).length = b.length + 1 := hS.2 i (by omega)
  refine ⟨⟨by rw [List.length_set]; exact hS.1, fun r hrn => ?_⟩, fun r c hrn hc => ?_⟩
  · rw [row_set _ _ _ _ hl]
    split
    · rw [List.length_set, hr]
    · exact hS.2 r hrn
  · rw [ent_row, row_set _ _ _ _ hl]
    have hh := h r c hrn hc
    by_cases e : r = i
    · subst e
      rw [if_pos rfl, getD_set _ _ _ _ (by omega)]
      by_cases ec : c = j
      · subst ec
        rw [if_pos rfl]
        exact ⟨fun _ => hv, fun hn => absurd (Or.inr ⟨rfl, Nat.le_refl _⟩) hn⟩
      · rw [if_neg ec, ← ent_row]
        exact ⟨fun hy => hh.1 (by omega), fun hn => hh.2 (by omega)⟩
    · rw [if_neg e, ← ent_row]
      exact ⟨fun hy => hh.1 (by omega), fun hn => hh.2 (by omega)⟩
theorem drop_cons {α : Type} (l : List α) (i : Nat) (h : i < l.length) : l.drop i = l[i] :: l.drop (i + 1) := List.drop_eq_getElem_cons h
theorem rdB_at (l : List ByteArray) (i : Nat) (h : i < l.length) : rdOf ByteArray.empty l (i : Int) = l[i] := by
  unfold rdOf
  rw [Int.toNat_natCast, List.getD_eq_getElem?_getD, List.getElem?_eq_getElem h]
  rfl
theorem l2_ev (a b : List ByteArray) (ha : a.length ≤ 4096) (hb : b.length ≤ 4096) (i : Nat) (hi : i < a.length) (R : List (List Int)) : ∀ (j : Nat) (T : List (List Int)), j ≤ b.length → Sized T a.length b.length → Right a b T i j →
    (∀ T', Sized T' a.length b.length → Right a b T' i 0 → ∃ r, Ev (fun k => diff_table.l1 k a b T' ((i : Int) - 1)) r ∧ IsTab a b r) →
    ∃ r, Ev (fun k => diff_table.l2 k a b T (i : Int) ((j : Int) - 1)) r ∧ IsTab a b r := by
  intro j
  induction j with
  | zero =>
    intro T _ hS hR next
    obtain ⟨r, hr, ht⟩ := next T hS hR
    refine ⟨r, Ev.step (fun k => ?_) hr, ht⟩
    rw [diff_table.l2, if_neg (by omega), w64 (by omega) (by omega)]
  | succ j ih =>
    intro T hj hS hR next
    have hl : T.length = a.length + 1 := hS.1
    have hr0 : (row T i).length = b.length + 1 := hS.2 i (by omega)
    have hr1 : (row T (i + 1)).length = b.length + 1 := hS.2 (i + 1) (by omega)
    have e1 : ((j + 1 : Nat) : Int) - 1 = (j : Int) := by omega
    have ei : (i : Int) + 1 = ((i + 1 : Nat) : Int) := by omega
    have ej : (j : Int) + 1 = ((j + 1 : Nat) : Int) := by omega
    have key : ∀ v, v = ((lcs (a.drop i) (b.drop j) : Nat) : Int) → ∃ r, Ev (fun k => diff_table.l2 k a b (T.set i ((row T i).set j v)) (i : Int) ((j : Int) - 1)) r ∧ IsTab a b r := by
      intro v hv
      obtain ⟨h1, h2⟩ := hR.put hS hi (by omega) v hv
      exact ih _ (by omega) h1 h2 next
    by_cases e : a[i] = b[j]
    · have hv : (lcs (a.drop i) (b.drop j) : Nat) = lcs (a.drop (i + 1)) (b.drop (j + 1)) + 1 := by rw [drop_cons a i hi, drop_cons b j (by omega), e, lcs_same]
      have hbound := lcs_bound a b ha (i + 1) (j + 1)
      obtain ⟨r, hr, ht⟩ := key (IntKind.u16.wrap (rd (rd_L2 T (i + 1)) (j + 1) + 1)) (by
        rw [ei, ej, rd_row, rd_nat, ← ent_row, (hR (i + 1) (j + 1) (by omega) (by omega)).1 (.inl (by omega)), hv]
        push_cast
        simp only [IntKind.wrap, IntKind.signed, IntKind.bits]
        simp
        omega)
      refine ⟨r, Ev.step (fun k => ?_) hr, ht⟩
      rw [diff_table.l2, e1, if_pos (by omega), if_pos (by omega), if_pos (by omega), if_pos (by omega), if_pos (by omega), rdB_at a i hi, rdB_at b j (by omega), if_pos (by rw [e]), w64 (by omega) (by omega), w64 (by omega) (by omega), if_pos (by omega), if_pos (by omega), if_pos (by omega), if_pos (by omega), if_pos (by rw [ei, rd_row, hr1]; omega), if_pos (by rw [rd_row, hr0]; omega), w64 (by omega) (by omega)]
      simp only [Int.toNat_natCast, rd_row]
    · have hv : (lcs (a.drop i) (b.drop j) : Nat) = max (lcs (a.drop (i + 1)) (b.drop j)) (lcs (a.drop i) (b.drop (j + 1))) := by rw [drop_cons a i hi, drop_cons b j (by omega), lcs_ne e]
      obtain ⟨r, hr, ht⟩ := key (mx (rd (rd_L2 T (i + 1)) j) (rd (rd_L2 T i) (j + 1))) (by
        rw [ei, ej, rd_row, rd_row, rd_nat, rd_nat, ← ent_row, ← ent_row, (hR (i + 1) j (by omega) (by omega)).1 (.inl (by omega)), (hR i (j + 1) (by omega) (by omega)).1 (.inr ⟨rfl, Nat.le_refl _⟩), hv]
        unfold mx
        omega)
      refine ⟨r, Ev.step (fun k => ?_) hr, ht⟩
      rw [diff_table.l2, e1, if_pos (by omega), if_pos (by omega), if_pos (by omega), if_pos (by omega), if_pos (by omega), rdB_at a i hi, rdB_at b j (by omega), if_neg (by rw [tl_inj]; exact e), w64 (by omega) (by omega), w64 (by omega) (by omega), if_pos (by omega), if_pos (by omega), if_pos (by omega), if_pos (by rw [ei, rd_row, hr1]; omega), if_pos (by omega), if_pos (by rw [rd_row, hr0]; omega), if_pos (by rw [rd_row, hr0]; omega), w64 (by omega) (by omega)]
      simp only [Int.toNat_natCast, rd_row]
theorem l1_ev (a b : List ByteArray) (ha : a.length ≤ 4096) (hb : b.length ≤ 4096) : ∀ (i : Nat) (T : List (List Int)), i ≤ a.length → Sized T a.length b.length → Right a b T i 0 → ∃ r, Ev (fun k => diff_table.l1 k a b T ((i : Int) - 1)) r ∧ IsTab a b r := by
  intro i
  induction i with
  | zero =>
    intro T _ hS hR
    refine ⟨T, Ev.end_ fun k => ?_, hS, fun r c hr hc => (hR r c hr hc).1 (by omega)⟩
    rw [diff_table.l1, if_neg (by omega)]
  | succ i ih =>
    intro T hi hS hR
    have e1 : ((i + 1 : Nat) : Int) - 1 = (i : Int) := by omega
    have hR' : Right a b T i (b.length + 1) := fun r c hr hc => ⟨fun hy => (hR r c hr hc).1 (by omega), fun hn => (hR r c hr hc).2 (by omega)⟩
    -- the last column is 0, and right
    have hR2 : Right a b T i b.length := fun r c hr hc => by
      refine ⟨fun hy => ?_, fun hn => (hR' r c hr hc).2 (by omega)⟩
      by_cases e : i < r
      · exact (hR' r c hr hc).1 (.inl e)
      · have er : r = i := by omega
        have ec : c = b.length := by omega
        subst er ec
        rw [(hR' r b.length hr hc).2 (by omega), List.drop_length, lcs_nil2]
        rfl
    obtain ⟨r, hr, ht⟩ := l2_ev a b ha hb i (by omega) T b.length T (Nat.le_refl _) hS hR2 (fun T' hS' hR'' => ih T' (by omega) hS' hR'')
    refine ⟨r, Ev.step (fun k => ?_) hr, ht⟩
    rw [diff_table.l1, e1, if_pos (by omega), w64 (by omega) (by omega)]
theorem l0_ev (a b : List ByteArray) (ha : a.length ≤ 4096) (hb : b.length ≤ 4096) : ∀ (d i : Nat) (T : List (List Int)), i + d = a.length + 1 → T.length = a.length + 1 → (∀ r, r < i → row T r = List.replicate (b.length + 1) 0) →
    ∃ r, Ev (fun k => diff_table.l0 k a b T ((a.length : Int) + 1) (i : Int)) r ∧ IsTab a b r := by
  intro d
  induction d with
  | zero =>
    intro i T hi hT hz
    have hS : Sized T a.length b.length := ⟨hT, fun r hr => by rw [hz r (by omega)]; simp⟩
    have h0 : ∀ r c, r ≤ a.length → ent T r c = 0 := fun r c hr => by
      rw [ent_row, hz r (by omega), List.getD_eq_getElem?_getD, List.getElem?_replicate]
      split <;> rfl
    have hR : Right a b T a.length 0 := fun r c hr hc => by
      refine ⟨fun hy => ?_, fun _ => h0 r c hr⟩
      have er : r = a.length := by omega
      subst er
      rw [h0 _ c hr, List.drop_length, lcs_nil]
      rfl
    obtain ⟨r, hr, ht⟩ := l1_ev a b ha hb a.length T (Nat.le_refl _) hS hR
    refine ⟨r, Ev.step (fun k => ?_) hr, ht⟩
    rw [diff_table.l0, if_neg (by omega), w64 (by omega) (by omega)]
  | succ d ih =>
    intro i T hi hT hz
    have hrep : (List.replicate (wrap64 ((b.length : Int) + 1)).toNat (0 : Int)) = List.replicate (b.length + 1) 0 := by rw [w64 (by omega) (by omega), show ((b.length : Int) + 1).toNat = b.length + 1 by omega]
    obtain ⟨r, hr, ht⟩ := ih (i + 1) (T.set i (List.replicate (b.length + 1) 0)) (by omega) (by rw [List.length_set, hT]) (fun r hr => by
      rw [row_set _ _ _ _ (by omega)]
      split
      · rfl
      · exact hz r (by omega))
    refine ⟨r, Ev.step (fun k => ?_) hr, ht⟩
    rw [diff_table.l0, hrep, if_pos (by omega), if_pos (by rw [w64 (by omega) (by omega)]; omega), if_pos (by rw [w64 (by omega) (by omega)]; omega), if_pos (by omega), if_pos (by rw [hT]; omega), w64 (n := (i : Int) + 1) (by omega) (by omega), Int.toNat_natCast]
    rfl
theorem table_ev (a b : List ByteArray) (ha : a.length ≤ 4096) (hb : b.length ≤ 4096) : ∃ r, Ev (fun k => diff_table.f k a b) r ∧ IsTab a b r := by
  obtain ⟨r, hr, ht⟩ := l0_ev a b ha hb (a.length + 1) 0 (List.replicate (a.length + 1) []) (by omega) (by simp) (fun r hr => by omega)
  refine ⟨r, Ev.congr (fun k => ?_) hr, ht⟩
  unfold diff_table.f
  have e : wrap64 ((a.length : Int) + 1) = (a.length : Int) + 1 := w64 (by omega) (by omega)
  rw [e, if_pos (by omega), if_pos (by omega), show ((a.length : Int) + 1).toNat = a.length + 1 by omega]
  simp only [Option.bind_some, List.length_replicate]
  push_cast
  rfl
/-- The edits of an alignment, as Least's second loop makes them. -/
def edits (h : Int) : List Op → Nat → Nat → Bool → List S44 → List S44
  | [], _, _, _, out => out
  | Op.K :: o, i, j, _, out => edits h o (i + 1) (j + 1) false out
  | Op.D :: o, i, j, op, out => edits h o (i + 1) j true (diff_Least.del (diff_Least.open_ h i j op out))
  | Op.I :: o, i, j, op, out => edits h o i (j + 1) true (diff_Least.ins (diff_Least.open_ h i j op out))
theorem go_is (a b : List ByteArray) (T : List (List Int)) (hT : IsTab a b T) (h : Int) : ∀ (n i j : Nat) (op : Bool) (out : List S44), i ≤ a.length → j ≤ b.length → a.length - i + (b.length - j) < n →
    diff_Least.go a b T h n i j op out = some (edits h (greedy (a.drop i) (b.drop j)) i j op out) := by
  intro n
  induction n with
  | zero => intro i j op out _ _ h; omega
  | succ n ih =>
    intro i j op out hi hj hn
    rw [diff_Least.go]
    by_cases hia : i < a.length
    · rw [if_pos hia]
      by_cases hjb : j < b.length
      · rw [if_pos hjb, rdB_at a i hia, rdB_at b j hjb, drop_cons a i hia, drop_cons b j hjb, greedy]
        by_cases e : a[i] = b[j]
        · rw [if_pos (by rw [e]), if_pos e, edits]
          exact ih (i + 1) (j + 1) _ _ (by omega) (by omega) (by omega)
        · have ei : (i : Int) + 1 = ((i + 1 : Nat) : Int) := by omega
          have ej : (j : Int) + 1 = ((j + 1 : Nat) : Int) := by omega
          rw [if_neg (by rw [tl_inj]; exact e), if_neg e, if_pos (by rw [hT.1.1]; omega), if_pos (by rw [rd_row, hT.1.2 i (by omega)]; omega), if_pos (by rw [ei, rd_row, hT.1.2 (i + 1) (by omega)]; omega)]
          rw [ei, ej, rd_row, rd_row, rd_nat, rd_nat, ← ent_row, ← ent_row, hT.2 i (j + 1) (by omega) (by omega), hT.2 (i + 1) j (by omega) (by omega)]
          rw [← drop_cons a i hia, ← drop_cons b j hjb]
          by_cases c : lcs (a.drop i) (b.drop (j + 1)) ≤ lcs (a.drop (i + 1)) (b.drop j)
          · rw [if_pos (by omega), if_pos c, edits]
            exact ih (i + 1) j _ _ (by omega) (by omega) (by omega)
          · rw [if_neg (by omega), if_neg c, edits]
            exact ih i (j + 1) _ _ (by omega) (by omega) (by omega)
      · rw [if_neg hjb]
        have hb0 : b.drop j = [] := List.drop_eq_nil_of_le (by omega)
        rw [hb0, drop_cons a i hia, greedy, edits, ← hb0]
        exact ih (i + 1) j _ _ (by omega) (by omega) (by omega)
    · rw [if_neg hia]
      have ha0 : a.drop i = [] := List.drop_eq_nil_of_le (by omega)
      by_cases hjb : j < b.length
      · rw [if_pos hjb, ha0, drop_cons b j hjb, greedy, edits, ← ha0]
        exact ih i (j + 1) _ _ (by omega) (by omega) (by omega)
      · rw [if_neg hjb, ha0, List.drop_eq_nil_of_le (show b.length ≤ j by omega), greedy, edits]
end Go.Proofs.Ytikepmdhnbnohaa.Pl
end
