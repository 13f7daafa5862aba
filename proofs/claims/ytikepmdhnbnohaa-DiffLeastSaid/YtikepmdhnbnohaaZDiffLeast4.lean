-- put together by bundle.py, a program of this session, out of the texts named below
import Derived.Test.YtikepmdhnbnohaaZDiffLeast2
import Derived.Test.YtikepmdhnbnohaaZDiffLeast3
-- text YtikepmdhnbnohaaPx6
section
-- written by mp.py, a program of this session, over the kit's printer
namespace Go.Proofs.Ytikepmdhnbnohaa.P
open Go.RowKit Go.Proofs.YtikepmdhnbnohaaW.PrintWords Go.Proofs.YtikepmdhnbnohaaW.PrintLast Go.Proofs.YtikepmdhnbnohaaW.PrintMore
attribute [local go_sem] max2_int min2_int max_two min_two max_three min_three max_four min_four   -- for this text's walks alone
set_option linter.unusedVariables false
set_option linter.unusedSimpArgs false

/-! ### diff_Least: function 12 -/
/-- How many lines are the same at the begin. -/
def diff_Least.pre : List ByteArray → List ByteArray → Nat
  | x :: a, y :: b => if x.toList = y.toList then diff_Least.pre a b + 1 else 0
  | _, _ => 0
theorem diff_Least.pre_step (a b : List ByteArray) (x : Int) (h0 : 0 ≤ x) (ha : x < (a.length : Int)) (hb : x < (b.length : Int)) (he : (rdOf ByteArray.empty a x).toList = (rdOf ByteArray.empty b x).toList) :
    diff_Least.pre (a.drop x.toNat) (b.drop x.toNat) = diff_Least.pre (a.drop (x + 1).toNat) (b.drop (x + 1).toNat) + 1 := by
  have h1 : x.toNat < a.length := by omega
  have h2 : x.toNat < b.length := by omega
  have h3 : (x + 1).toNat = x.toNat + 1 := by omega
  rw [List.drop_eq_getElem_cons h1, List.drop_eq_getElem_cons h2, h3]
  unfold rdOf at he
  rw [List.getD_eq_getElem?_getD, List.getD_eq_getElem?_getD, List.getElem?_eq_getElem h1, List.getElem?_eq_getElem h2] at he
  rw [diff_Least.pre]
  exact if_pos he
theorem diff_Least.pre_stop (a b : List ByteArray) (x : Int) (h0 : 0 ≤ x) (h : ¬ (x < (a.length : Int) ∧ x < (b.length : Int) ∧ (rdOf ByteArray.empty a x).toList = (rdOf ByteArray.empty b x).toList)) :
    diff_Least.pre (a.drop x.toNat) (b.drop x.toNat) = 0 := by
  by_cases h1 : x.toNat < a.length
  · by_cases h2 : x.toNat < b.length
    · rw [List.drop_eq_getElem_cons h1, List.drop_eq_getElem_cons h2, diff_Least.pre]
      rw [if_neg]
      intro he
      refine h ⟨by omega, by omega, ?_⟩
      unfold rdOf
      rw [List.getD_eq_getElem?_getD, List.getD_eq_getElem?_getD, List.getElem?_eq_getElem h1, List.getElem?_eq_getElem h2]
      exact he
    · rw [List.drop_eq_nil_of_le (show b.length ≤ x.toNat by omega)]
      cases a.drop x.toNat <;> rfl
  · rw [List.drop_eq_nil_of_le (show a.length ≤ x.toNat by omega)]
    rfl
theorem diff_Least.exits (a b : List ByteArray) (x : Int) (h0 : 0 ≤ x) (h : ¬ (x < (a.length : Int) ∧ x < (b.length : Int) ∧ (rdOf ByteArray.empty a x).toList = (rdOf ByteArray.empty b x).toList)) :
    decide (x < (a.length : Int)) = false ∨ (decide (x < (a.length : Int)) = true ∧ decide (x < (b.length : Int)) = false) ∨ (decide (x < (a.length : Int)) = true ∧ decide (x < (b.length : Int)) = true ∧ ((rdOf ByteArray.empty a x).toList == (rdOf ByteArray.empty b x).toList) = false) := by
  by_cases ha : x < (a.length : Int)
  · by_cases hb : x < (b.length : Int)
    · exact .inr (.inr ⟨decide_eq_true ha, decide_eq_true hb, beq_eq_false_iff_ne.mpr fun he => h ⟨ha, hb, he⟩⟩)
    · exact .inr (.inl ⟨decide_eq_true ha, decide_eq_false hb⟩)
  · exact .inl (decide_eq_false ha)
/-- The closure's edit: the last one, or a new one. -/
def diff_Least.open_ (h i j : Int) (op : Bool) (out : List S44) : List S44 := if op = true then out else out ++ [⟨h + i, 0, h + j, 0⟩]
def diff_Least.last (out : List S44) : S44 := out.getD (out.length - 1) z44
def diff_Least.del (out : List S44) : List S44 := out.set (out.length - 1) ⟨(diff_Least.last out).f0, wrap64 ((diff_Least.last out).f1 + 1), (diff_Least.last out).f2, (diff_Least.last out).f3⟩
def diff_Least.ins (out : List S44) : List S44 := out.set (out.length - 1) ⟨(diff_Least.last out).f0, (diff_Least.last out).f1, (diff_Least.last out).f2, wrap64 ((diff_Least.last out).f3 + 1)⟩
/-- The second loop's rounds. -/
def diff_Least.go (a b : List ByteArray) (t : List (List Int)) (h : Int) : Nat → Nat → Nat → Bool → List S44 → Option (List S44)
  | 0, _, _, _, _ => none
  | n + 1, i, j, op, out =>
    if i < a.length then
      if j < b.length then
        if (rdOf ByteArray.empty a (i : Int)).toList = (rdOf ByteArray.empty b (j : Int)).toList then diff_Least.go a b t h n (i + 1) (j + 1) false out
        else if i + 1 < t.length then if j + 1 < (rd_L2 t (i : Int)).length then if j < (rd_L2 t ((i : Int) + 1)).length then
          if rd (rd_L2 t (i : Int)) ((j : Int) + 1) ≤ rd (rd_L2 t ((i : Int) + 1)) (j : Int) then diff_Least.go a b t h n (i + 1) j true (diff_Least.del (diff_Least.open_ h i j op out))
          else diff_Least.go a b t h n i (j + 1) true (diff_Least.ins (diff_Least.open_ h i j op out))
          else none else none else none
      else diff_Least.go a b t h n (i + 1) j true (diff_Least.del (diff_Least.open_ h i j op out))
    else if j < b.length then diff_Least.go a b t h n i (j + 1) true (diff_Least.ins (diff_Least.open_ h i j op out))
    else some out
def diff_Least.f (k : Nat) (l0 : List ByteArray) (l1 : List ByteArray) : Option (List S44) :=
  if 4096 < l0.length ∨ 4096 < l1.length then (slices_Equal_string_string.f k l0 l1).bind fun e => some (if e = true then [] else [⟨0, (l0.length : Int), 0, (l1.length : Int)⟩])
  else (diff_table.f k (l0.drop (diff_Least.pre l0 l1)) (l1.drop (diff_Least.pre l0 l1))).bind fun t => diff_Least.go (l0.drop (diff_Least.pre l0 l1)) (l1.drop (diff_Least.pre l0 l1)) t (diff_Least.pre l0 l1 : Nat) ((l0.drop (diff_Least.pre l0 l1)).length + (l1.drop (diff_Least.pre l0 l1)).length + 1) 0 0 false []
/-- Where the closure's three variables lie, and what they hold. -/
def diff_Least.Vars (base bp bo bh : Nat) (op : Bool) (h : Int) (v : Value) (out : List S44) (w : World) : Prop :=
  w.heap[bp]? = some (.cells #[.bool op] 4 (0, 0)) ∧ w.heap[bo]? = some (.cells #[v] 26 (0, 0)) ∧ w.heap[bh]? = some (.cells #[.int .i64 h] 3 (0, 0)) ∧ Kd.R k44 44 w base (fun _ => True) v out
/-- All blocks but those of three types stay. -/
def diff_Least.Keeps (w w' : World) : Prop := ∀ (g : Nat) (cells : Array Value) (q : TypeId) (fr : Nat × Nat), w.heap[g]? = some (Obj.cells cells q fr) → q ≠ 4 → q ≠ 26 → q ≠ 44 → w'.heap[g]? = some (Obj.cells cells q fr)
theorem diff_Least.Keeps.refl (w : World) : diff_Least.Keeps w w := fun _ _ _ _ h _ _ _ => h
theorem diff_Least.Keeps.trans {w w1 w2 : World} (h : diff_Least.Keeps w w1) (k : diff_Least.Keeps w1 w2) : diff_Least.Keeps w w2 := fun g c q fr e n1 n2 n3 => k g c q fr (h g c q fr e n1 n2 n3) n1 n2 n3
theorem diff_Least.Keeps.set {w : World} {g : Nat} {cs : Array Value} {t : TypeId} (hb : w.heap[g]? = some (.cells cs t (0, 0))) (ht : t = 4 ∨ t = 26 ∨ t = 44) (j : Nat) (u : Value) : diff_Least.Keeps w (w.setCell ⟨g, j, none⟩ u) := fun g' c q fr e n1 n2 n3 => by
  refine (Below.heap_setCell w _ _ g' ?_).trans e
  rintro rfl
  rw [hb] at e
  injection e with e
  injection e with _ e2 _
  rcases ht with rfl | rfl | rfl
  · exact n1 e2.symm
  · exact n2 e2.symm
  · exact n3 e2.symm
theorem diff_Least.Keeps.row {w w1 : World} {base : Nat} {v : Value} {out : List S44} (hO : Kd.R k44 44 w base (fun _ => True) v out) (hg : w.grownBy w1 v.ownBlock) : diff_Least.Keeps w w1 := fun g c q fr e n1 n2 n3 => by
  refine (hg.block g (blk_lt e) fun hk => ?_).trans e
  obtain ⟨cells, hc⟩ := Kd.R_typed hO g hk.symm
  rw [e] at hc
  injection hc with hc
  injection hc with _ h2 _
  exact n3 h2
theorem diff_Least.Keeps.S {α : Type} {d : Kd α} {e base : Nat} {ok : Nat → Prop} {w w1 : World} {v : Value} {xs : List α} (hk : diff_Least.Keeps w w1) (h : Kd.S d e w base ok v xs) (ht : ∀ q, q ∈ e :: d.E → q ≠ 4 ∧ q ≠ 26 ∧ q ≠ 44) : Kd.S d e w1 base ok v xs :=
  Kd.S_mono (Kd.S_move (Kd.S_bound h) fun k hk2 => by
    obtain ⟨_, _, _, q, hq, cells, hc⟩ := hk2
    obtain ⟨n1, n2, n3⟩ := ht q hq
    rw [hk k cells q _ hc n1 n2 n3, hc]) (fun _ hk2 => hk2.1)
/-- Behind the append and the two stores. -/
theorem diff_Least.laid {base bp bo bh : Nat} {op : Bool} {h : Int} {v v1 : Value} {out out1 : List S44} {w0 w w1 : World} (hbp : base ≤ bp) (hbo : base ≤ bo) (hV : diff_Least.Vars base bp bo bh op h v out w) (ho : Kd.R k44 44 w1 base (fun _ => True) v1 out1) (hb : Below base w0 w1)
    (hg : w.grownBy w1 v.ownBlock) (hbase : base ≤ w.heap.size) : diff_Least.Vars base bp bo bh true h v1 out1 ((w1.setCell ⟨bo, 0, none⟩ v1).setCell ⟨bp, 0, none⟩ (.bool true)) ∧ Below base w0 ((w1.setCell ⟨bo, 0, none⟩ v1).setCell ⟨bp, 0, none⟩ (.bool true)) ∧ base ≤ ((w1.setCell ⟨bo, 0, none⟩ v1).setCell ⟨bp, 0, none⟩ (.bool true)).heap.size ∧ diff_Least.Keeps w ((w1.setCell ⟨bo, 0, none⟩ v1).setCell ⟨bp, 0, none⟩ (.bool true)) := by
  obtain ⟨hp, hbo1, hh, hO⟩ := hV
  have np : bp ≠ bo := blk_ne hp hbo1 (by decide)
  have nh : bh ≠ bo := blk_ne hh hbo1 (by decide)
  have nhp : bh ≠ bp := blk_ne hh hp (by decide)
  have h1 := blk_grown hp hg (Kd.R_ne hO hp (by decide))
  have h2 := blk_grown hh hg (Kd.R_ne hO hh (by decide))
  have h3 := blk_grown hbo1 hg (Kd.R_ne hO hbo1 (by decide))
  have h4 := hg.size
  have h5 := blk_far (p := ⟨bo, 0, none⟩) h1 np v1
  refine ⟨⟨blk_put h5 0 _ rfl, blk_far (blk_put h3 0 _ rfl) (Ne.symm np) _, blk_far (blk_far h2 nh _) nhp _, Kd.R_set (Kd.R_set ho h3 (by decide) 0 v1) h5 (by decide) 0 _⟩, (hb.setCell hbo _).setCell hbp _, by simp; omega, ?_⟩
  exact ((diff_Least.Keeps.row hO hg).trans (diff_Least.Keeps.set h3 (.inr (.inl rfl)) 0 v1)).trans (diff_Least.Keeps.set h5 (.inl rfl) 0 _)
set_option maxHeartbeats 2000000 in
set_option maxRecDepth 100000 in
theorem diff_Least.at_calls (i j h : Int) (op : Bool) (v : Value) (out : List S44) (base bp bo bh : Nat) (w0 w : World) (hbp : base ≤ bp) (hbo : base ≤ bo) (hB : Below base w0 w) (hbase : base ≤ w.heap.size) (hl : out.length < 4398046511103) (hne : op = true → 0 < out.length)
    (hi0 : 0 ≤ i) (hi1 : i ≤ 4096) (hj0 : 0 ≤ j) (hj1 : j ≤ 4096) (hh0 : 0 ≤ h) (hh1 : h ≤ 4096)
    (hV : diff_Least.Vars base bp bo bh op h v out w) :
    Calls Try.prog 31 #[.int .i64 i, .int .i64 j, .pointer (some ⟨bp, 0, none⟩), .pointer (some ⟨bo, 0, none⟩), .pointer (some ⟨bh, 0, none⟩)] w fun e w' =>
      ∃ g cap, e = .returned (.pointer (some ⟨g, ((diff_Least.open_ h i j op out).length - 1) * 4, none⟩)) ∧ diff_Least.Vars base bp bo bh true h (.slice (some ⟨g, 0, none⟩) (diff_Least.open_ h i j op out).length cap) (diff_Least.open_ h i j op out) w' ∧ Below base w0 w' ∧ base ≤ w'.heap.size ∧ diff_Least.Keeps w w' ∧ 0 < (diff_Least.open_ h i j op out).length := by
  have HV := Aside0.mk hV
  have HB := Aside0.mk hB
  have hcp := blk_cell hV.1 0
  have hco := blk_cell hV.2.1 0
  have hch := blk_cell hV.2.2.1 0
  have hfp := blk_frozen hV.1 0
  have HL := Aside0.mk hl
  clear hB hl
  cases op with
  | true =>
    have hp := hne rfl
    obtain ⟨g, cap, rfl, hg1, hg2, cells, hg3⟩ := Kd.R_form hV.2.2.2 hp
    have e : diff_Least.open_ h i j true out = out := by unfold diff_Least.open_; rw [if_pos rfl]
    have E := Aside0.mk e
    obtain ⟨m, hm⟩ : ∃ m, out.length = m + 1 := ⟨out.length - 1, by omega⟩
    have HM := Aside0.mk hm
    have hmb : (m : Int) ≤ 4398046511104 := by have := HL.out; omega
    replace hco : w.cell? ⟨bo, 0, none⟩ = some (.slice (some ⟨g, 0, none⟩) (m + 1) cap) := by rw [hco, hm]; rfl
    clear e hne hg1 hg2 hg3 hV hp hm
    go_enter Try.func31, Try.ntmps31
    go_wp2
    go_ret
    refine ⟨g, cap, ?_, by rw [E.out]; exact HV.out, HB.out, hbase, diff_Least.Keeps.refl _, by rw [E.out, HM.out]; omega⟩
    rw [E.out, HM.out]
    rfl
  | false =>
    have e : diff_Least.open_ h i j false out = out ++ [⟨h + i, 0, h + j, 0⟩] := by unfold diff_Least.open_; rw [if_neg (by decide)]
    have E := Aside0.mk e
    have hlen : (out.length : Int) ≤ 4398046511104 := by have := HL.out; omega
    clear e hne hV
    go_enter Try.func31, Try.ntmps31
    go_wp2_with (first | ((with_reducible refine gate_builtin (b := .append) (xs := #[.tmp 10, .tmp 18]) rfl ?_); at_builtin; refine Kd.R_append k44 (w0 := w0) base rfl (.tmp 10) (.tmp 18) 26 44 (.agg #[(.int .i64 0), (.int .i64 0), (.int .i64 0), (.int .i64 0)]) 32 rfl Try.underlying26 info44 rfl (by decide) (by omega) v out (⟨h + i, 0, h + j, 0⟩ : S44) [.int .i64 (h + i), .int .i64 0, .int .i64 (h + j), .int .i64 0] (fun _ => True) (fun _ => False) rfl rfl ?aP (fun _ hk => hk.elim) ?aF ?aO ?aB ?aS ?aL ?_; (case aP => exact k44_mkM _ _ _ (⟨h + i, 0, h + j, 0⟩ : S44)); (case aF => exact (fun _ _ => trivial)); (case aO => exact HV.out.2.2.2); (case aB => exact HB.out); (case aS => exact hbase); (case aL => have := HL.out; omega); intro v1 w1 ho hb hg hat; obtain ⟨g1, cap1, ev1⟩ : ∃ g1 cap1, v1 = .slice (some ⟨g1, 0, none⟩) (out.length + 1) cap1 := (by obtain ⟨g1, cap1, e1, _⟩ := Kd.R_form ho (by simp); exact ⟨g1, cap1, by rw [e1]; simp⟩); subst ev1; have HF := Aside0.mk (diff_Least.laid hbp hbo HV.out ho hb hg hbase); have hbo1 := blk_grown HV.out.2.1 hg (Kd.R_ne HV.out.2.2.2 HV.out.2.1 (by decide)); have hbp1 := blk_grown HV.out.1 hg (Kd.R_ne HV.out.2.2.2 HV.out.1 (by decide)); have hco1 := blk_cell hbo1 0; have hfo1 := blk_frozen hbo1 0; have hcp1 : (w1.setCell ⟨bo, 0, none⟩ (.slice (some ⟨g1, 0, none⟩) (out.length + 1) cap1)).cell? ⟨bp, 0, none⟩ = some (.bool false) := (blk_cell (blk_far (p := ⟨bo, 0, none⟩) hbp1 (blk_ne hbp1 hbo1 (by decide)) _) 0).trans rfl; have hfp1 := blk_frozen (blk_far (p := ⟨bo, 0, none⟩) hbp1 (blk_ne hbp1 hbo1 (by decide)) (.slice (some ⟨g1, 0, none⟩) (out.length + 1) cap1)) 0; have hld := blk_cell HF.out.1.2.1 0; clear hbo1 hbp1 ho hb hg hat))
    go_ret
    refine ⟨g1, cap1, ?_, by rw [E.out]; simpa using HF.out.1, HF.out.2.1, HF.out.2.2.1, HF.out.2.2.2, by rw [E.out]; simp⟩
    rw [E.out]
    simp
theorem diff_Least.bumped {base bp bo bh g cap : Nat} {h : Int} {out : List S44} {w : World} (hp : 0 < out.length) (hV : diff_Least.Vars base bp bo bh true h (.slice (some ⟨g, 0, none⟩) out.length cap) out w) :
    base ≤ g ∧ (w.cell? ⟨g, (out.length - 1) * 4 + 1, none⟩ = some (.int .i64 (diff_Least.last out).f1) ∧ w.frozen? ⟨g, (out.length - 1) * 4 + 1, none⟩ = false ∧
      diff_Least.Vars base bp bo bh true h (.slice (some ⟨g, 0, none⟩) out.length cap) (diff_Least.del out) (w.setCell ⟨g, (out.length - 1) * 4 + 1, none⟩ (.int .i64 (wrap64 ((diff_Least.last out).f1 + 1)))) ∧ diff_Least.Keeps w (w.setCell ⟨g, (out.length - 1) * 4 + 1, none⟩ (.int .i64 (wrap64 ((diff_Least.last out).f1 + 1))))) ∧
     (w.cell? ⟨g, (out.length - 1) * 4 + 3, none⟩ = some (.int .i64 (diff_Least.last out).f3) ∧ w.frozen? ⟨g, (out.length - 1) * 4 + 3, none⟩ = false ∧
      diff_Least.Vars base bp bo bh true h (.slice (some ⟨g, 0, none⟩) out.length cap) (diff_Least.ins out) (w.setCell ⟨g, (out.length - 1) * 4 + 3, none⟩ (.int .i64 (wrap64 ((diff_Least.last out).f3 + 1)))) ∧ diff_Least.Keeps w (w.setCell ⟨g, (out.length - 1) * 4 + 3, none⟩ (.int .i64 (wrap64 ((diff_Least.last out).f3 + 1))))) := by
  obtain ⟨hp1, ho1, hh1, hO⟩ := hV
  have hz : ((out.length - 1 : Nat) : Int).toNat = out.length - 1 := by omega
  have hgb : base ≤ g := Kd.R_base hO g rfl
  obtain ⟨cells, hgc⟩ := Kd.R_typed hO g rfl
  obtain ⟨c, hcl, hM, hcc, hff⟩ := Kd.R_elem hO z44 ((out.length - 1 : Nat) : Int) (by omega) (by omega)
  rw [hz] at hcc hff hM
  obtain rfl := k44_openM hM
  have hne : ∀ q, q ∈ 44 :: (k44).E → q = 44 := by decide
  have keep : ∀ (j : Nat) (u : Value), diff_Least.Keeps w (w.setCell ⟨g, j, none⟩ u) := fun j u => diff_Least.Keeps.set hgc (.inr (.inr rfl)) j u
  have seg : ∀ (j : Nat) (u : Value) (x' : S44), j + 1 ≤ 4 → ([.int .i64 (diff_Least.last out).f0, .int .i64 (diff_Least.last out).f1, .int .i64 (diff_Least.last out).f2, .int .i64 (diff_Least.last out).f3] : List Value).take j ++ [u] ++ ([.int .i64 (diff_Least.last out).f0, .int .i64 (diff_Least.last out).f1, .int .i64 (diff_Least.last out).f2, .int .i64 (diff_Least.last out).f3] : List Value).drop (j + 1) = [.int .i64 x'.f0, .int .i64 x'.f1, .int .i64 x'.f2, .int .i64 x'.f3] →
      Kd.R k44 44 (w.setCell ⟨g, (out.length - 1) * 4 + j, none⟩ u) base (fun _ => True) (.slice (some ⟨g, 0, none⟩) out.length cap) (out.set (out.length - 1) x') := by
    intro j u x' hj hx
    have z := (Kd.R_seg hO ((out.length - 1 : Nat) : Int) (by omega) (by omega) (seg := [u]) (j := j) (okp := fun _ => False) hcl (by rw [hz]; exact hcc) hj (x' := x') (by
      have := k44_mkM (w := w) (base := base) (ok := fun _ => False) x'
      rw [← hx] at this
      exact this) (fun _ hk => hk.elim)).1
    rw [hz] at z
    exact z
  refine ⟨hgb, ⟨hcc 1 _ rfl, hff 1, ⟨?_, ?_, ?_, ?_⟩, keep _ _⟩, ⟨hcc 3 _ rfl, hff 3, ⟨?_, ?_, ?_, ?_⟩, keep _ _⟩⟩
  · exact blk_far hp1 (blk_ne hp1 hgc (by decide)) _
  · exact blk_far ho1 (blk_ne ho1 hgc (by decide)) _
  · exact blk_far hh1 (blk_ne hh1 hgc (by decide)) _
  · exact seg 1 _ _ (by decide) rfl
  · exact blk_far hp1 (blk_ne hp1 hgc (by decide)) _
  · exact blk_far ho1 (blk_ne ho1 hgc (by decide)) _
  · exact blk_far hh1 (blk_ne hh1 hgc (by decide)) _
  · exact seg 3 _ _ (by decide) rfl
theorem diff_Least.set_open {base bp bo bh : Nat} {op : Bool} {h : Int} {v : Value} {out : List S44} {w : World} (hV : diff_Least.Vars base bp bo bh op h v out w) (n : Nat) (op' : Bool) : diff_Least.Vars base bp bo bh op' h v out ((w.drewN n).setCell ⟨bp, 0, none⟩ (.bool op')) := by
  obtain ⟨hp, ho, hh, hO⟩ := hV
  have hp' : (w.drewN n).heap[bp]? = some (.cells #[.bool op] 4 (0, 0)) := hp
  have ho' : (w.drewN n).heap[bo]? = some (.cells #[v] 26 (0, 0)) := ho
  have hh' : (w.drewN n).heap[bh]? = some (.cells #[.int .i64 h] 3 (0, 0)) := hh
  exact ⟨blk_put hp' 0 _ rfl, blk_far ho' (blk_ne ho hp (by decide)) _, blk_far hh' (blk_ne hh hp (by decide)) _, Kd.R_set (Kd.R_drewN hO n) hp' (by decide) 0 _⟩
theorem diff_Least.Vars_drewN {base bp bo bh : Nat} {op : Bool} {h : Int} {v : Value} {out : List S44} {w : World} (hV : diff_Least.Vars base bp bo bh op h v out w) (n : Nat) : diff_Least.Vars base bp bo bh op h v out (w.drewN n) := by
  obtain ⟨hp, ho, hh, hO⟩ := hV
  exact ⟨hp, ho, hh, Kd.R_drewN hO n⟩
def diff_Least.toNdel_i (i : Nat) : Nat := i + 1
def diff_Least.toNdel_j (j : Nat) : Nat := j
def diff_Least.toNins_i (i : Nat) : Nat := i
def diff_Least.toNins_j (j : Nat) : Nat := j + 1
theorem diff_Least.one (W : World) (base : Nat) (a b c d : Int) (hb : base ≤ W.heap.size) : Kd.R k44 44 (W.alloc (.cells #[.int .i64 a, .int .i64 b, .int .i64 c, .int .i64 d] 44)) base (fun _ => True) (.slice (some ⟨W.heap.size, 0, none⟩) 1 1) [⟨a, b, c, d⟩] :=
  ⟨fun _ _ => trivial, OwnRow.lit W base (ps := [(⟨a, b, c, d⟩ : S44)]) (inner := [.int .i64 a, .int .i64 b, .int .i64 c, .int .i64 d]) (Reps.snoc (Reps.none _ _) (k44_mkM _ _ _ _) rfl) hb (by simp)⟩
set_option maxHeartbeats 8000000 in
set_option maxRecDepth 100000 in
theorem diff_Least.calls (k : Nat) (A0 : Option Addr) (c0 : Nat) (l0 : List ByteArray) (A1 : Option Addr) (c1 : Nat) (l1 : List ByteArray) (r : List (S44)) (w : World) (hr0 : Kd.C Kd.string w A0 l0.length l0) (hc0 : l0.length ≤ c0) (hr1 : Kd.C Kd.string w A1 l1.length l1) (hc1 : l1.length ≤ c1) (h : diff_Least.f k l0 l1 = some r) :
    Calls Try.prog 12 #[.slice A0 l0.length c0, .slice A1 l1.length c1] w fun e w' => ∃ v0_ : Value, e = .returned (v0_) ∧ Kd.R k44 44 w' w.heap.size (fun _ => True) v0_ r ∧ Below w.heap.size w w' := by
  have HR0 := Aside0.mk hr0
  have HC0 := Aside0.mk hc0
  have HR1 := Aside0.mk hr1
  have HC1 := Aside0.mk hc1
  clear hr0 hc0 hr1 hc1
  unfold diff_Least.f at h
  by_cases c : 4096 < l0.length ∨ 4096 < l1.length
  · rw [if_pos c] at h
    obtain ⟨e, he, h⟩ := Option.bind_eq_some_iff.mp h
    have HE := Aside0.mk he
    obtain rfl := Option.some.inj h
    clear he h
    have cc : (decide ((4096 : Int) < (l0.length : Int)) = true) ∨ (decide ((4096 : Int) < (l0.length : Int)) = false ∧ decide ((4096 : Int) < (l1.length : Int)) = true) := by
      rcases Nat.lt_or_ge 4096 l0.length with c1 | c1
      · exact .inl (decide_eq_true (by omega))
      · exact .inr ⟨decide_eq_false (by omega), decide_eq_true (by omega)⟩
    clear c
    rcases cc with c1b | ⟨c1b, c2b⟩
    all_goals
      cases e
      all_goals
        go_enter Try.func12, Try.ntmps12
        go_wp2_with (go_at_call 29; (with_reducible refine (slices_Equal_string_string.calls k A0 c0 l0 A1 c1 l1 _ _ HR0.out HC0.out HR1.out HC1.out HE.out).mono ?_); rintro e w' ⟨rfl, ⟨nd, rfl⟩⟩)
        go_ret
      · exact ⟨_, rfl, diff_Least.one (w.drewN nd) w.heap.size 0 (l0.length : Int) 0 (l1.length : Int) (Nat.le_refl _), below_alloc (pw_below_drewN (Below.refl _ _) _) _⟩
      · exact ⟨_, rfl, Kd.R_nil _ _ _ _ _, pw_below_drewN (Below.refl _ _) _⟩
  · rw [if_neg c] at h
    have c1b : decide ((4096 : Int) < (l0.length : Int)) = false := decide_eq_false (by omega)
    have c2b : decide ((4096 : Int) < (l1.length : Int)) = false := decide_eq_false (by omega)
    have hn0 : (l0.length : Int) ≤ 4096 := by omega
    have hn1 : (l1.length : Int) ≤ 4096 := by omega
    obtain ⟨t, ht, h⟩ := Option.bind_eq_some_iff.mp h
    have HT := Aside0.mk ht
    have HG := Aside0.mk h
    clear ht h c
    go_enter Try.func12, Try.ntmps12
    go_wp2
    go_loopg [] l0.length (fun kq w' => ∃ x : Int, 0 ≤ x ∧ x ≤ (l0.length : Int) ∧ x ≤ (l1.length : Int) ∧ Aside0 ((kq : Int) + x = l0.length) ∧ Aside0 (diff_Least.pre (l0.drop x.toNat) (l1.drop x.toNat) + x.toNat = diff_Least.pre l0 l1) ∧
      Aside0 (w'.heap[w.heap.size]? = some (.cells #[.int .i64 x] 3 (0, 0))) ∧ Aside0 (Below w.heap.size w w'))
    case atStart => exact ⟨0, by omega, by omega, by omega, ⟨by omega⟩, ⟨rfl⟩, ⟨blk_new _ _⟩, ⟨below_alloc (Below.refl _ _) _⟩⟩
    case round =>
      obtain ⟨x, hx0, hxa, hxb, HK, HP, HX, HB⟩ := hrel
      have hcx := blk_cell HX.out 0
      have hfx := blk_frozen HX.out 0
      by_cases go_on : x < (l0.length : Int) ∧ x < (l1.length : Int) ∧ (rdOf ByteArray.empty l0 x).toList = (rdOf ByteArray.empty l1 x).toList
      · obtain ⟨xa, xb, xe⟩ := go_on
        have p1 := diff_Least.pre_step l0 l1 x hx0 xa xb xe
        have HP1 := Aside0.mk (show diff_Least.pre (l0.drop (x + 1).toNat) (l1.drop (x + 1).toNat) + (x + 1).toNat = diff_Least.pre l0 l1 by rw [← HP.out, p1]; omega)
        clear p1
        have xab : decide (x < (l0.length : Int)) = true := decide_eq_true xa
        have xbb : decide (x < (l1.length : Int)) = true := decide_eq_true xb
        obtain ⟨ad0, e0, hs0⟩ := Kd.at_string HR0.out x hx0 xa
        cases e0
        obtain ⟨ad1, e1, hs1⟩ := Kd.at_string HR1.out x hx0 xb
        cases e1
        replace hs0 := (HB.out.cell (World.block_lt_of_cell? w _ hs0)).trans hs0
        replace hs1 := (HB.out.cell (World.block_lt_of_cell? w _ hs1)).trans hs1
        have xeb : ((rdOf ByteArray.empty l0 x).toList == (rdOf ByteArray.empty l1 x).toList) = true := beq_iff_eq.mpr xe
        clear xe
        obtain ⟨kq, rfl⟩ : ∃ kq, gk = kq + 1 := ⟨gk - 1, by have := HK.out; omega⟩
        go_wp2
        go_quiet (fail)
        go_wp2
        go_roundg kq
        case measure => omega
        case rel =>
          refine ⟨x + 1, by omega, by omega, by omega, ⟨by have := HK.out; omega⟩, HP1, ⟨?_⟩, ⟨?_⟩⟩
          · exact blk_put HX.out 0 _ rfl
          · first | exact pw_below_drewN (below_set HB.out (Nat.le_refl _)) _ | exact below_set (pw_below_drewN HB.out _) (Nat.le_refl _)
      · have hp0 := diff_Least.pre_stop l0 l1 x hx0 go_on
        have hp1 : diff_Least.pre l0 l1 = x.toNat := by have := HP.out; omega
        have hxx : ((x.toNat : Nat) : Int) = x := by omega
        have HT1 := HT.out
        have HG1 := HG.out
        rw [hp1] at HT1 HG1
        rw [hxx] at HG1
        clear HT HG HP hp0 hp1
        obtain ⟨i09, hi09, _, hsz9, _⟩ := info_parts info9
        obtain ⟨Aa, hcutA, hAa, hCa⟩ := print_drop_of (P := Try.prog) Value.string (⟨#[]⟩ : ByteArray) 22 9 .i64 Try.underlying22 hi09 hsz9 A0 c0 l0 x hx0 hxa HC0.out
        obtain ⟨Ab, hcutB, hAb, hCb⟩ := print_drop_of (P := Try.prog) Value.string (⟨#[]⟩ : ByteArray) 22 9 .i64 Try.underlying22 hi09 hsz9 A1 c1 l1 x hx0 hxb HC1.out
        have hRa := Kd.C_of_reads (h1 := fun _ => rfl) (hAa _ (Kd.reads_of_C HR0.out))
        have hRb := Kd.C_of_reads (h1 := fun _ => rfl) (hAb _ (Kd.reads_of_C HR1.out))
        clear hAa hAb hi09 hsz9
        have hna : (l0.drop x.toNat).length ≤ 4096 := by rw [List.length_drop]; omega
        have hnb : (l1.drop x.toNat).length ≤ 4096 := by rw [List.length_drop]; omega
        have hfa := diff_Least.exits l0 l1 x hx0 go_on
        clear go_on
        generalize l0.drop x.toNat = la at *
        generalize l1.drop x.toNat = lb at *
        have HRa := Aside0.mk hRa
        have HRb := Aside0.mk hRb
        have HCa := Aside0.mk hCa
        have HCb := Aside0.mk hCb
        have HT := Aside0.mk HT1
        have HG := Aside0.mk HG1
        have hna' : (la.length : Int) ≤ 4096 := by omega
        have hnb' : (lb.length : Int) ≤ 4096 := by omega
        have hx4 : x ≤ 4096 := by omega
        clear hRa hRb hCa hCb HT1 HG1 hna hnb hxx
        rcases hfa with f1 | ⟨f1, f2⟩ | ⟨f1, f2, f3⟩
        case' inr.inr =>
          obtain ⟨ad0, e0, hs0⟩ := Kd.at_string HR0.out x hx0 (of_decide_eq_true f1)
          cases e0
          obtain ⟨ad1, e1, hs1⟩ := Kd.at_string HR1.out x hx0 (of_decide_eq_true f2)
          cases e1
          replace hs0 := (HB.out.cell (World.block_lt_of_cell? w _ hs0)).trans hs0
          replace hs1 := (HB.out.cell (World.block_lt_of_cell? w _ hs1)).trans hs1
          have g1 := of_decide_eq_true f1
          have g2 := of_decide_eq_true f2
        all_goals
          go_wp2
          go_quiet (fail)
          go_wp2
          go_quiet (fail)
          go_wp2_with (go_at_call 30; (with_reducible refine (diff_table.calls k _ _ la _ _ lb t _ ?s1 ?s2 ?s3 ?s4 HT.out).mono ?_); (case s1 => exact Kd.C_below HRa.out (pw_below_drewN HB.out _)); (case s2 => exact HCa.out); (case s3 => exact Kd.C_below HRb.out (pw_below_drewN HB.out _)); (case s4 => exact HCb.out); rintro e w1 ⟨tv, rfl, hS, hb1⟩; obtain ⟨At, ct, etv⟩ := Kd.S_slice hS; subst etv; have HS := Aside0.mk hS; have HB1 := Aside0.mk (below_step (pw_below_drewN HB.out _) hb1); have HX1 := Aside0.mk (blk_below (blk_drewN HX.out _) hb1); clear hS hb1)
          have hw1 := blk_lt HX1.out
          go_loopg [10, 11] (la.length + lb.length) (fun kq v10 v11 w' => ∃ (i j : Int) (op : Bool) (v : Value) (out : List S44), v10 = .int .i64 i ∧ v11 = .int .i64 j ∧ 0 ≤ i ∧ i ≤ (la.length : Int) ∧ 0 ≤ j ∧ j ≤ (lb.length : Int) ∧
            Aside0 (op = true → 0 < out.length) ∧ Aside0 ((la.length : Int) + lb.length ≤ (kq : Int) + i + j) ∧ Aside0 ((out.length : Int) ≤ i + j) ∧ Aside0 (diff_Least.go la lb t x (kq + 1) i.toNat j.toNat op out = some r) ∧
            Aside0 (diff_Least.Vars w.heap.size (w1.heap.size + 1) w1.heap.size w.heap.size op x v out w') ∧ Aside0 (Below w.heap.size w w') ∧ Aside0 (w1.heap.size + 2 ≤ w'.heap.size) ∧
            Aside0 (Kd.S (Kd.slice 49 (Kd.int .u16)) 50 w' (wr.drewN nq).heap.size (fun _ => True) (.slice At t.length ct) t))
          case atStart =>
            refine ⟨0, 0, false, .slice none 0 0, [], rfl, rfl, by omega, by omega, by omega, by omega, ⟨by simp⟩, ⟨by push_cast; omega⟩, ⟨by simp⟩, HG, ⟨⟨?_, ?_, ?_, Kd.R_nil _ _ _ _ _⟩⟩, ⟨below_alloc (below_alloc HB1.out _) _⟩, ⟨by simp⟩, ⟨Kd.S_alloc (Kd.S_alloc HS.out _) _⟩⟩
            · simpa using blk_new (w1.alloc (.cells #[.slice none 0 0] 26)) (.cells #[.bool false] 4)
            · exact blk_alloc (blk_new _ _) _
            · exact blk_alloc (blk_alloc HX1.out _) _
          case round =>
            obtain ⟨i, j, op, v, out, rfl, rfl, hi0, hia, hj0, hjb, HN, HK, HO, HA, HV, HB2, HS2, HSt⟩ := hrel
            have HA' := HA.out
            rw [diff_Least.go] at HA'
            simp only [Int.toNat_of_nonneg hi0, Int.toNat_of_nonneg hj0] at HA'
            have hi4 : i ≤ 4096 := by omega
            have hj4 : j ≤ 4096 := by omega
            have hcp := blk_cell HV.out.1 0
            have hfp := blk_frozen HV.out.1 0
            have hco := blk_cell HV.out.2.1 0
            have hbo_ : w.heap.size ≤ w1.heap.size := by omega
            have hbp_ : w.heap.size ≤ w1.heap.size + 1 := by omega
            have hbs_ : w.heap.size ≤ wr.heap.size := by have := HS2.out; omega
            have hol : out.length < 4398046511103 := by have := HO.out; omega
            have HOL := Aside0.mk hol
            clear HA hol
            obtain ⟨o2, ho2⟩ : ∃ o2, o2 = diff_Least.open_ x i j op out := ⟨_, rfl⟩
            have hol2 : o2.length ≤ out.length + 1 := by rw [ho2]; unfold diff_Least.open_; split <;> simp
            have HO2 := Aside0.mk (show (o2.length : Int) ≤ i + j + 1 by have := HO.out; omega)
            rw [← ho2] at HA'
            have E2 := Aside0.mk ho2
            clear ho2 hol2
            by_cases ia : i < (la.length : Int)
            · rw [if_pos (show i.toNat < la.length by omega)] at HA'
              have iab : decide (i < (la.length : Int)) = true := decide_eq_true ia
              by_cases jb : j < (lb.length : Int)
              · rw [if_pos (show j.toNat < lb.length by omega)] at HA'
                have jbb : decide (j < (lb.length : Int)) = true := decide_eq_true jb
                have jeb : (j == (lb.length : Int)) = false := beq_eq_false_iff_ne.mpr (by omega)
                obtain ⟨aa, ea, hsa⟩ := Kd.at_string HRa.out i hi0 ia
                cases ea
                obtain ⟨ab, eb, hsb⟩ := Kd.at_string HRb.out j hj0 jb
                cases eb
                replace hsa := (HB2.out.cell (World.block_lt_of_cell? w _ hsa)).trans hsa
                replace hsb := (HB2.out.cell (World.block_lt_of_cell? w _ hsb)).trans hsb
                obtain ⟨kq, rfl⟩ : ∃ kq, gk = kq + 1 := ⟨gk - 1, by have := HK.out; omega⟩
                by_cases same : (rdOf ByteArray.empty la i).toList = (rdOf ByteArray.empty lb j).toList
                · rw [if_pos same] at HA'
                  have HA := Aside0.mk HA'
                  have sb : ((rdOf ByteArray.empty la i).toList == (rdOf ByteArray.empty lb j).toList) = true := beq_iff_eq.mpr same
                  clear HA' same
                  go_wp2
                  go_quiet (fail)
                  go_wp2
                  go_roundg kq
                  case measure => omega
                  case rel =>
                    refine ⟨i + 1, j + 1, false, v, out, rfl, rfl, by omega, by omega, by omega, by omega, ⟨by simp⟩, ⟨by have := HK.out; omega⟩, ⟨by have := HO.out; omega⟩, ⟨?_⟩, ⟨?_⟩, ⟨?_⟩, ⟨by have := HS2.out; simp; omega⟩, ⟨?_⟩⟩
                    · have z := HA.out
                      rw [show (i + 1).toNat = i.toNat + 1 by omega, show (j + 1).toNat = j.toNat + 1 by omega]
                      exact z
                    · exact diff_Least.set_open HV.out _ false
                    · exact below_set (pw_below_drewN HB2.out _) hbp_
                    · exact diff_Least.Keeps.S (diff_Least.Keeps.set (w := wr.drewN nq) HV.out.1 (.inl rfl) 0 _) (Kd.S_drewN HSt.out _) (by decide)
                · rw [if_neg same] at HA'
                  have sb : ((rdOf ByteArray.empty la i).toList == (rdOf ByteArray.empty lb j).toList) = false := beq_eq_false_iff_ne.mpr same
                  clear same
                  by_cases t1 : i.toNat + 1 < t.length
                  · rw [if_pos t1] at HA'
                    by_cases t2 : j.toNat + 1 < (rd_L2 t i).length
                    · rw [if_pos t2] at HA'
                      by_cases t3 : j.toNat < (rd_L2 t (i + 1)).length
                      · rw [if_pos t3] at HA'
                        obtain ⟨at0, Ai0, ci0, et0, hti0, hli0, hri0⟩ := at_L2 (Kd.S_reads' HSt.out).2.2 i hi0 (by omega)
                        obtain ⟨at1, Ai1, ci1, et1, hti1, hli1, hri1⟩ := at_L2 (Kd.S_reads' HSt.out).2.2 (i + 1) (by omega) (by omega)
                        have eat : at0 = at1 := by rw [et0] at et1; exact Option.some.inj et1
                        subst eat
                        cases et0
                        obtain ⟨ar0, er0, hv0⟩ := Kd.at_int hri0 (j + 1) (by omega) (by omega)
                        cases er0
                        obtain ⟨ar1, er1, hv1⟩ := Kd.at_int hri1 j hj0 (by omega)
                        cases er1
                        have b1 : i + 1 < (t.length : Int) := by omega
                        have b2 : j + 1 < ((rd_L2 t i).length : Int) := by omega
                        have b3 : j < ((rd_L2 t (i + 1)).length : Int) := by omega
                        clear hri0 hri1 t1 t2 t3
                        by_cases tt : rd (rd_L2 t i) (j + 1) ≤ rd (rd_L2 t (i + 1)) j
                        · rw [if_pos tt] at HA'
                          have HA := Aside0.mk HA'
                          have ttb : decide (rd (rd_L2 t i) (j + 1) ≤ rd (rd_L2 t (i + 1)) j) = true := decide_eq_true tt
                          clear HA' tt
                          go_wp2
                          go_quiet (fail)
                          go_wp2
                          go_quiet (fail)
                          go_wp2_with (go_at_call 31; (with_reducible refine (diff_Least.at_calls i j x op v out w.heap.size (w1.heap.size + 1) w1.heap.size w.heap.size w _ hbp_ hbo_ ?sB ?sS HOL.out HN.out hi0 hi4 hj0 hj4 hx0 hx4 ?sV).mono ?_); (case sB => exact pw_below_drewN HB2.out _); (case sS => exact hbs_); (case sV => exact diff_Least.Vars_drewN HV.out _); rintro e w2 ⟨g, cap, he, hV2, hB3, hS3, hK2, hp2⟩; rw [← E2.out] at he hV2 hp2; subst he; have BM := diff_Least.bumped hp2 hV2; have HBM := Aside0.mk BM; have HB3 := Aside0.mk hB3; have HK2 := Aside0.mk hK2; have HP2 := Aside0.mk hp2; have HS3 := Aside0.mk (blk_lt hV2.1); have hcd := BM.2.1.1; have hfd := BM.2.1.2.1; clear hV2 hB3 hS3 hK2 hp2 BM)
                          go_roundg kq
                          case measure => omega
                          case rel =>
                            refine ⟨i + 1, j, true, _, diff_Least.del o2, rfl, rfl, by omega, by omega, by omega, by omega, ⟨fun _ => ?_⟩, ⟨by have := HK.out; omega⟩, ⟨?_⟩, ⟨?_⟩, ⟨HBM.out.2.1.2.2.1⟩, ⟨?_⟩, ⟨?_⟩, ⟨?_⟩⟩
                            · have := HP2.out; unfold diff_Least.del; simpa using this
                            · have := HO2.out; unfold diff_Least.del; rw [List.length_set]; omega
                            · have z := HA.out
                              rw [show (i + 1).toNat = diff_Least.toNdel_i i.toNat from by unfold diff_Least.toNdel_i; omega, show (j).toNat = diff_Least.toNdel_j j.toNat from by unfold diff_Least.toNdel_j; omega]
                              exact z
                            · exact HB3.out.setCell HBM.out.1 _
                            · have := HS3.out; simp; omega
                            · exact diff_Least.Keeps.S HBM.out.2.1.2.2.2 (diff_Least.Keeps.S HK2.out (Kd.S_drewN HSt.out _) (by decide)) (by decide)
                        · rw [if_neg tt] at HA'
                          have HA := Aside0.mk HA'
                          have ttb : decide (rd (rd_L2 t i) (j + 1) ≤ rd (rd_L2 t (i + 1)) j) = false := decide_eq_false tt
                          clear HA' tt
                          go_wp2
                          go_quiet (fail)
                          go_wp2
                          go_quiet (fail)
                          go_wp2_with (go_at_call 31; (with_reducible refine (diff_Least.at_calls i j x op v out w.heap.size (w1.heap.size + 1) w1.heap.size w.heap.size w _ hbp_ hbo_ ?sB ?sS HOL.out HN.out hi0 hi4 hj0 hj4 hx0 hx4 ?sV).mono ?_); (case sB => exact pw_below_drewN HB2.out _); (case sS => exact hbs_); (case sV => exact diff_Least.Vars_drewN HV.out _); rintro e w2 ⟨g, cap, he, hV2, hB3, hS3, hK2, hp2⟩; rw [← E2.out] at he hV2 hp2; subst he; have BM := diff_Least.bumped hp2 hV2; have HBM := Aside0.mk BM; have HB3 := Aside0.mk hB3; have HK2 := Aside0.mk hK2; have HP2 := Aside0.mk hp2; have HS3 := Aside0.mk (blk_lt hV2.1); have hcd := BM.2.2.1; have hfd := BM.2.2.2.1; clear hV2 hB3 hS3 hK2 hp2 BM)
                          go_roundg kq
                          case measure => omega
                          case rel =>
                            refine ⟨i, j + 1, true, _, diff_Least.ins o2, rfl, rfl, by omega, by omega, by omega, by omega, ⟨fun _ => ?_⟩, ⟨by have := HK.out; omega⟩, ⟨?_⟩, ⟨?_⟩, ⟨HBM.out.2.2.2.2.1⟩, ⟨?_⟩, ⟨?_⟩, ⟨?_⟩⟩
                            · have := HP2.out; unfold diff_Least.ins; simpa using this
                            · have := HO2.out; unfold diff_Least.ins; rw [List.length_set]; omega
                            · have z := HA.out
                              rw [show (i).toNat = diff_Least.toNins_i i.toNat from by unfold diff_Least.toNins_i; omega, show (j + 1).toNat = diff_Least.toNins_j j.toNat from by unfold diff_Least.toNins_j; omega]
                              exact z
                            · exact HB3.out.setCell HBM.out.1 _
                            · have := HS3.out; simp; omega
                            · exact diff_Least.Keeps.S HBM.out.2.2.2.2.2 (diff_Least.Keeps.S HK2.out (Kd.S_drewN HSt.out _) (by decide)) (by decide)
                      · rw [if_neg t3] at HA'
                        exact absurd HA' (by simp)
                    · rw [if_neg t2] at HA'
                      exact absurd HA' (by simp)
                  · rw [if_neg t1] at HA'
                    exact absurd HA' (by simp)
              · rw [if_neg (show ¬ j.toNat < lb.length by omega)] at HA'
                have jbb : decide (j < (lb.length : Int)) = false := decide_eq_false jb
                have jeb : (j == (lb.length : Int)) = true := beq_iff_eq.mpr (by omega)
                have HA := Aside0.mk HA'
                clear HA'
                obtain ⟨kq, rfl⟩ : ∃ kq, gk = kq + 1 := ⟨gk - 1, by have := HK.out; omega⟩
                go_wp2
                go_quiet (fail)
                go_wp2
                go_quiet (fail)
                go_wp2_with (go_at_call 31; (with_reducible refine (diff_Least.at_calls i j x op v out w.heap.size (w1.heap.size + 1) w1.heap.size w.heap.size w _ hbp_ hbo_ ?sB ?sS HOL.out HN.out hi0 hi4 hj0 hj4 hx0 hx4 ?sV).mono ?_); (case sB => exact pw_below_drewN HB2.out _); (case sS => exact hbs_); (case sV => exact diff_Least.Vars_drewN HV.out _); rintro e w2 ⟨g, cap, he, hV2, hB3, hS3, hK2, hp2⟩; rw [← E2.out] at he hV2 hp2; subst he; have BM := diff_Least.bumped hp2 hV2; have HBM := Aside0.mk BM; have HB3 := Aside0.mk hB3; have HK2 := Aside0.mk hK2; have HP2 := Aside0.mk hp2; have HS3 := Aside0.mk (blk_lt hV2.1); have hcd := BM.2.1.1; have hfd := BM.2.1.2.1; clear hV2 hB3 hS3 hK2 hp2 BM)
                go_roundg kq
                case measure => omega
                case rel =>
                  refine ⟨i + 1, j, true, _, diff_Least.del o2, rfl, rfl, by omega, by omega, by omega, by omega, ⟨fun _ => ?_⟩, ⟨by have := HK.out; omega⟩, ⟨?_⟩, ⟨?_⟩, ⟨HBM.out.2.1.2.2.1⟩, ⟨?_⟩, ⟨?_⟩, ⟨?_⟩⟩
                  · have := HP2.out; unfold diff_Least.del; simpa using this
                  · have := HO2.out; unfold diff_Least.del; rw [List.length_set]; omega
                  · have z := HA.out
                    rw [show (i + 1).toNat = diff_Least.toNdel_i i.toNat from by unfold diff_Least.toNdel_i; omega, show (j).toNat = diff_Least.toNdel_j j.toNat from by unfold diff_Least.toNdel_j; omega]
                    exact z
                  · exact HB3.out.setCell HBM.out.1 _
                  · have := HS3.out; simp; omega
                  · exact diff_Least.Keeps.S HBM.out.2.1.2.2.2 (diff_Least.Keeps.S HK2.out (Kd.S_drewN HSt.out _) (by decide)) (by decide)
            · rw [if_neg (show ¬ i.toNat < la.length by omega)] at HA'
              have iab : decide (i < (la.length : Int)) = false := decide_eq_false ia
              by_cases jb : j < (lb.length : Int)
              · rw [if_pos (show j.toNat < lb.length by omega)] at HA'
                have jbb : decide (j < (lb.length : Int)) = true := decide_eq_true jb
                have jeb : (j == (lb.length : Int)) = false := beq_eq_false_iff_ne.mpr (by omega)
                have HA := Aside0.mk HA'
                clear HA'
                obtain ⟨kq, rfl⟩ : ∃ kq, gk = kq + 1 := ⟨gk - 1, by have := HK.out; omega⟩
                go_wp2
                go_quiet (fail)
                go_wp2
                go_quiet (fail)
                go_wp2_with (go_at_call 31; (with_reducible refine (diff_Least.at_calls i j x op v out w.heap.size (w1.heap.size + 1) w1.heap.size w.heap.size w _ hbp_ hbo_ ?sB ?sS HOL.out HN.out hi0 hi4 hj0 hj4 hx0 hx4 ?sV).mono ?_); (case sB => exact pw_below_drewN HB2.out _); (case sS => exact hbs_); (case sV => exact diff_Least.Vars_drewN HV.out _); rintro e w2 ⟨g, cap, he, hV2, hB3, hS3, hK2, hp2⟩; rw [← E2.out] at he hV2 hp2; subst he; have BM := diff_Least.bumped hp2 hV2; have HBM := Aside0.mk BM; have HB3 := Aside0.mk hB3; have HK2 := Aside0.mk hK2; have HP2 := Aside0.mk hp2; have HS3 := Aside0.mk (blk_lt hV2.1); have hcd := BM.2.2.1; have hfd := BM.2.2.2.1; clear hV2 hB3 hS3 hK2 hp2 BM)
                go_roundg kq
                case measure => omega
                case rel =>
                  refine ⟨i, j + 1, true, _, diff_Least.ins o2, rfl, rfl, by omega, by omega, by omega, by omega, ⟨fun _ => ?_⟩, ⟨by have := HK.out; omega⟩, ⟨?_⟩, ⟨?_⟩, ⟨HBM.out.2.2.2.2.1⟩, ⟨?_⟩, ⟨?_⟩, ⟨?_⟩⟩
                  · have := HP2.out; unfold diff_Least.ins; simpa using this
                  · have := HO2.out; unfold diff_Least.ins; rw [List.length_set]; omega
                  · have z := HA.out
                    rw [show (i).toNat = diff_Least.toNins_i i.toNat from by unfold diff_Least.toNins_i; omega, show (j + 1).toNat = diff_Least.toNins_j j.toNat from by unfold diff_Least.toNins_j; omega]
                    exact z
                  · exact HB3.out.setCell HBM.out.1 _
                  · have := HS3.out; simp; omega
                  · exact diff_Least.Keeps.S HBM.out.2.2.2.2.2 (diff_Least.Keeps.S HK2.out (Kd.S_drewN HSt.out _) (by decide)) (by decide)
              · rw [if_neg (show ¬ j.toNat < lb.length by omega)] at HA'
                have jbb : decide (j < (lb.length : Int)) = false := decide_eq_false jb
                obtain rfl := Option.some.inj HA'
                clear HA'
                go_wp2
                go_ret
                exact ⟨_, rfl, HV.out.2.2.2, HB2.out⟩

end Go.Proofs.Ytikepmdhnbnohaa.P
end
-- text YtikepmdhnbnohaaPx2
section
-- written by mp.py, a program of this session, over the kit's printer
namespace Go.Proofs.Ytikepmdhnbnohaa.P
open Go.RowKit Go.Proofs.YtikepmdhnbnohaaW.PrintWords Go.Proofs.YtikepmdhnbnohaaW.PrintLast Go.Proofs.YtikepmdhnbnohaaW.PrintMore
attribute [local go_sem] max2_int min2_int max_two min_two max_three min_three max_four min_four   -- for this text's walks alone
set_option linter.unusedVariables false
set_option linter.unusedSimpArgs false

theorem eqA44 (d : Nat) (w : World) (x0 y0 : Int) (x1 y1 : Int) (x2 y2 : Int) (x3 y3 : Int) :
    (Op.equalIn (d + 2) 44 (.agg #[.int .i64 x0, .int .i64 x1, .int .i64 x2, .int .i64 x3]) (.agg #[.int .i64 y0, .int .i64 y1, .int .i64 y2, .int .i64 y3])).run Try.prog w = .ok (x0 == y0 && (x1 == y1 && (x2 == y2 && (x3 == y3)))) w := by
  refine eqA_of Try.underlying44 (by kernel_rfl) ?_
  refine eqf_cons (by rfl) (by go_simp; rfl) (by go_simp; rfl) (by go_simp) ?_
  refine eqf_cons (by rfl) (by go_simp; rfl) (by go_simp; rfl) (by go_simp) ?_
  refine eqf_cons (by rfl) (by go_simp; rfl) (by go_simp; rfl) (by go_simp) ?_
  exact eqf_last (by rfl) (by go_simp; rfl) (by go_simp; rfl) (by go_simp)
end Go.Proofs.Ytikepmdhnbnohaa.P
end
