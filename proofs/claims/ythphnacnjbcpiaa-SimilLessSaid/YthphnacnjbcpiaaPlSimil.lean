/- What Common and Score answer, the program's and the reference's; the document's examples. Conditions: none. -/
import Derived.Test.YthphnacnjbcpiaaPx0
import Derived.Test.YthphnacnjbcpiaaPx11
import Derived.Test.YthphnacnjbcpiaaPx12
import Derived.Test.YthphnacnjbcpiaaPx3
import Derived.Test.YthphnacnjbcpiaaPx4
import Derived.Test.YthphnacnjbcpiaaPlCm
import Derived.Test.YthphnacnjbcpiaaPlRSplit
import Derived.Test.YthphnacnjbcpiaaPlPSplit
namespace Go.Proofs.Ythphnacnjbcpiaa.Pl
open Go.RowKit Go.Proofs.YthphnacnjbcpiaaW.PrintWords Go.Proofs.Ythphnacnjbcpiaa.P
theorem times_cnt (x : ByteArray) : ∀ l, simil_bag.times l x = cnt l x
  | [] => rfl
  | y :: l => by rw [simil_bag.times, cnt, times_cnt x l]
/-- How many bytes two texts have in common. -/
def com (a b : ByteArray) : Nat := cm ByteArray.size (lns a) (lns b)
theorem com_le_r (a b : ByteArray) : com a b ≤ b.size := by rw [← total_lns b]; exact cm_le _ _ _
theorem com_symm (a b : ByteArray) : com a b = com b a := cm_symm _ _ _
theorem com_le_l (a b : ByteArray) : com a b ≤ a.size := by rw [com_symm]; exact com_le_r b a
theorem go_cm (H : List ByteArray) : ∀ (l seen R : List ByteArray) (n : Nat), (∀ x, cnt R x = cnt H x - cnt seen x) → n + tot ByteArray.size l < 4611686018427387904 → simil_common.go H l seen (n : Int) = ((n + cm ByteArray.size R l : Nat) : Int)
  | [], seen, R, n, _, _ => by rw [simil_common.go, cm, Nat.add_zero]
  | s :: l, seen, R, n, hR, hn => by
    have ht : tot ByteArray.size (s :: l) = s.size + tot ByteArray.size l := by simp [tot]
    have hs := hR s
    rw [simil_common.go, cm]
    by_cases p : 0 < cnt R s
    · have tk : simil_common.take H seen s = (s.size : Int) := by
        unfold simil_common.take
        rw [times_cnt, times_cnt, if_neg (by omega)]
      rw [if_pos p, tk, w64 (by omega) (by omega), show (n : Int) + (s.size : Int) = ((n + s.size : Nat) : Int) by omega, go_cm H l (seen ++ [s]) (del s R) (n + s.size) (fun x => by rw [cnt_del, hR, cnt_append, cnt, cnt]; omega) (by omega)]
      omega
    · have tk : simil_common.take H seen s = 0 := by
        unfold simil_common.take
        rw [times_cnt, times_cnt, if_pos (by omega)]
      rw [if_neg p, tk, Int.add_zero, w64 (by omega) (by omega), go_cm H l (seen ++ [s]) R n (fun x => by
        rw [hR, cnt_append, cnt, cnt]
        by_cases e : s = x
        · subst e; rw [if_pos rfl]; omega
        · rw [if_neg e]; omega) (by omega)]
theorem mem_total {x : ByteArray} : ∀ {l : List ByteArray}, x ∈ l → x.size ≤ total l
  | y :: l, h => by
    have e : total (y :: l) = y.size + total l := by simp [total]
    rcases List.mem_cons.1 h with rfl | h
    · omega
    · have := mem_total h
      omega
theorem w64n {n : Nat} (h : n ≤ 9223372036854775807) : wrap64 (n : Int) = n := w64 (by omega) (by omega)
theorem fits_lns (a : ByteArray) (h : a.size < 8796093022208) : simil_bag.fits (lns a) = true := by
  unfold simil_bag.fits
  rw [Bool.and_eq_true, decide_eq_true_iff, List.all_eq_true]
  refine ⟨by have := lns_length a; omega, fun x hx => decide_eq_true ?_⟩
  have h1 : x.size ≤ total (lns a) := by
    exact mem_total hx
  rw [total_lns] at h1
  omega
theorem common_ev (a b : ByteArray) (ha : a.size < 8796093022208) (hb : b.size < 8796093022208) : Ev (fun k => simil_Common.f k a b) (com a b : Int) := by
  unfold simil_Common.f simil_bag.f simil_common.f
  refine Ev.bind (a := lns a) (Ev.bind (psplit_ev a ha) ?_) (Ev.bind (psplit_ev b hb) ?_)
  · rw [if_pos (fits_lns a ha)]
    exact Ev.now _
  · rw [if_pos (fits_lns a ha), if_pos (fits_lns b hb)]
    have ht : tot ByteArray.size (lns b) = b.size := total_lns b
    have := go_cm (lns a) (lns b) [] (lns a) 0 (fun x => by rw [cnt, Nat.sub_zero]) (by omega)
    rw [Nat.zero_add] at this
    rw [show (0 : Int) = ((0 : Nat) : Int) from rfl, this]
    exact Ev.now _
theorem tl_eq (a b : ByteArray) : (a.toList = b.toList) = (a = b) := propext tl_inj
theorem times_loop (s : ByteArray) : ∀ (r d : List ByteArray) (n : Nat), (d ++ r).length < 4611686018427387904 → n ≤ d.length → Ev (fun k => graftageref11_times.l0 k (d ++ r) s (n : Int) ((d ++ r).length : Int) (d.length : Int)) ((n + cnt r s : Nat) : Int) := by
  intro r
  induction r with
  | nil =>
    intro d n _ _
    refine Ev.end_ fun k => ?_
    rw [graftageref11_times.l0, if_neg (by simp), cnt, Nat.add_zero]
  | cons c r ih =>
    intro d n hl hn
    have hlen := len_mid d r c
    by_cases e : c = s
    · have := ih (d ++ [c]) (n + 1) (by simpa using hl) (by simp; omega)
      refine Ev.step (fun k => ?_) (show Ev (fun k => graftageref11_times.l0 k (d ++ c :: r) s ((n + 1 : Nat) : Int) ((d ++ c :: r).length : Int) ((d ++ [c]).length : Int)) ((n + cnt (c :: r) s : Nat) : Int) from ?_)
      · rw [graftageref11_times.l0, if_pos (by omega), if_pos (by omega), if_pos (by omega), rdB_mid, if_pos (by rw [e]), w64 (by omega) (by omega), w64 (by omega) (by omega), len_snoc]
        rfl
      · rw [cnt, if_pos e, show n + (cnt r s + 1) = n + 1 + cnt r s by omega]
        simpa using this
    · have := ih (d ++ [c]) n (by simpa using hl) (by simp; omega)
      refine Ev.step (fun k => ?_) (show Ev (fun k => graftageref11_times.l0 k (d ++ c :: r) s (n : Int) ((d ++ c :: r).length : Int) ((d ++ [c]).length : Int)) ((n + cnt (c :: r) s : Nat) : Int) from ?_)
      · rw [graftageref11_times.l0, if_pos (by omega), if_pos (by omega), if_pos (by omega), rdB_mid, if_neg (by rw [tl_eq]; exact e), w64 (by omega) (by omega), len_snoc]
      · rw [cnt, if_neg e, Nat.add_zero]
        simpa using this
theorem times_ev (l : List ByteArray) (s : ByteArray) (hl : l.length < 4611686018427387904) : Ev (fun k => graftageref11_times.f k l s) (cnt l s : Int) := by
  have := times_loop s l [] 0 hl (Nat.le_refl _)
  rw [Nat.zero_add] at this
  exact this
/-- The part of a list that isn't in another one. -/
def fresh (d : List ByteArray) : List ByteArray → List ByteArray
  | [] => []
  | s :: r => if 0 < cnt d s then fresh d r else s :: fresh d r
theorem cnt_fresh (d : List ByteArray) (x : ByteArray) : ∀ r, cnt (fresh d r) x = if 0 < cnt d x then 0 else cnt r x
  | [] => by simp [fresh, cnt]
  | s :: r => by
    rw [fresh]
    by_cases p : 0 < cnt d s
    · rw [if_pos p, cnt_fresh d x r, cnt]
      by_cases q : 0 < cnt d x
      · rw [if_pos q, if_pos q]
      · rw [if_neg q, if_neg q, if_neg (fun e : s = x => q (by rw [← e]; exact p)), Nat.add_zero]
    · rw [if_neg p, cnt, cnt_fresh d x r, cnt]
      by_cases q : 0 < cnt d x
      · rw [if_pos q, if_pos q, if_neg (fun e : s = x => p (by rw [e]; exact q))]
      · rw [if_neg q, if_neg q]
theorem mn_nat (a b : Nat) : mn (a : Int) (b : Int) = ((min a b : Nat) : Int) := by unfold mn; split <;> omega
theorem mx_nat (a b : Nat) : mx (a : Int) (b : Int) = ((max a b : Nat) : Int) := by unfold mx; split <;> omega
theorem tot_fresh (d : List ByteArray) : ∀ r, tot ByteArray.size (fresh d r) ≤ tot ByteArray.size r
  | [] => Nat.le_refl _
  | s :: r => by
    have := tot_fresh d r
    rw [fresh]
    split
    · simp [tot] at *; omega
    · simp [tot] at *; omega
theorem rcommon_loop (Y : List ByteArray) (hY : Y.length < 4611686018427387904) : ∀ (r d : List ByteArray) (n : Nat), (d ++ r).length < 4611686018427387904 → n + cm ByteArray.size (fresh d r) Y < 4611686018427387904 →
    Ev (fun k => graftageref11_Common.l0 k (d ++ r) Y (n : Int) ((d ++ r).length : Int) (d.length : Int)) ((n + cm ByteArray.size (fresh d r) Y : Nat) : Int) := by
  intro r
  induction r with
  | nil =>
    intro d n _ _
    refine Ev.end_ fun k => ?_
    rw [graftageref11_Common.l0, if_neg (by simp), fresh, cm_nil, Nat.add_zero]
  | cons c r ih =>
    intro d n hl hn
    have hlen := len_mid d r c
    have htk : (d ++ c :: r).take ((d.length : Int)).toNat = d := by rw [Int.toNat_natCast, List.take_left' rfl]
    have hfr : ∀ x, cnt (fresh (d ++ [c]) r) x = if x = c then 0 else cnt (fresh d (c :: r)) x := by
      intro x
      rw [cnt_fresh, cnt_fresh, cnt_append, cnt, cnt, cnt]
      by_cases e : c = x
      · subst e; rw [if_pos rfl, if_pos rfl, if_pos (by omega)]
      · rw [if_neg e, if_neg (Ne.symm e)]; rfl
    by_cases p : 0 < cnt d c
    · have hc : cm ByteArray.size (fresh d (c :: r)) Y = cm ByteArray.size (fresh (d ++ [c]) r) Y := cm_congr _ fun x => by
        rw [hfr x]
        by_cases e : x = c
        · rw [if_pos e, cnt_fresh, e, if_pos p]
        · rw [if_neg e]
      rw [hc] at hn ⊢
      have := ih (d ++ [c]) n (by simpa using hl) hn
      refine Ev.step (f := fun k => (graftageref11_times.f k d c).bind fun t => if t = 0 then (graftageref11_times.f k (d ++ c :: r) c).bind fun t202 => (graftageref11_times.f k Y c).bind fun t204 => graftageref11_Common.l0 k (d ++ c :: r) Y (wrap64 ((n : Int) + (wrap64 ((c.size : Int) * (mn t202 t204))))) ((d ++ c :: r).length : Int) ((d ++ [c]).length : Int) else graftageref11_Common.l0 k (d ++ c :: r) Y (n : Int) ((d ++ c :: r).length : Int) ((d ++ [c]).length : Int)) (fun k => ?_) ?_
      · rw [graftageref11_Common.l0, if_pos (by omega), if_pos (by omega), if_pos (by omega), if_pos (by omega), htk, rdB_mid, w64 (n := (d.length : Int) + 1) (by omega) (by omega), len_snoc]
      · refine Ev.bind (times_ev d c (by simp at hl; omega)) ?_
        refine Ev.congr (fun k => if_neg (by omega)) ?_
        simpa using this
    · have hcx : cnt (d ++ c :: r) c = cnt (fresh d (c :: r)) c := by rw [cnt_append, cnt_fresh, if_neg p]; omega
      have hsp := cm_split ByteArray.size c Y (fresh d (c :: r)) (fresh (d ++ [c]) r) hfr
      rw [← hcx] at hsp
      rw [hsp] at hn ⊢
      rw [← Nat.add_assoc] at hn ⊢
      have := ih (d ++ [c]) (n + c.size * min (cnt (d ++ c :: r) c) (cnt Y c)) (by simpa using hl) hn
      refine Ev.step (f := fun k => (graftageref11_times.f k d c).bind fun t => if t = 0 then (graftageref11_times.f k (d ++ c :: r) c).bind fun t202 => (graftageref11_times.f k Y c).bind fun t204 => graftageref11_Common.l0 k (d ++ c :: r) Y (wrap64 ((n : Int) + (wrap64 ((c.size : Int) * (mn t202 t204))))) ((d ++ c :: r).length : Int) ((d ++ [c]).length : Int) else graftageref11_Common.l0 k (d ++ c :: r) Y (n : Int) ((d ++ c :: r).length : Int) ((d ++ [c]).length : Int)) (fun k => ?_) ?_
      · rw [graftageref11_Common.l0, if_pos (by omega), if_pos (by omega), if_pos (by omega), if_pos (by omega), htk, rdB_mid, w64 (n := (d.length : Int) + 1) (by omega) (by omega), len_snoc]
      · refine Ev.bind (times_ev d c (by simp at hl; omega)) ?_
        refine Ev.congr (fun k => if_pos (by omega)) ?_
        refine Ev.bind (times_ev _ c hl) (Ev.bind (times_ev Y c hY) ?_)
        rw [mn_nat, ← Int.natCast_mul, w64 (n := ((c.size * min (cnt (d ++ c :: r) c) (cnt Y c) : Nat) : Int)) (by omega) (by omega), ← Int.natCast_add, w64 (by omega) (by omega)]
        simpa using this
theorem rcommon_ev (a b : ByteArray) (ha : a.size < 8796093022208) (hb : b.size < 8796093022208) : Ev (fun k => graftageref11_Common.f k a b) (com a b : Int) := by
  unfold graftageref11_Common.f
  refine Ev.bind (rsplit_ev a ha) (Ev.bind (rsplit_ev b hb) ?_)
  have hf : fresh [] (lns a) = lns a := by
    have : ∀ l, fresh [] l = l := fun l => by
      induction l with
      | nil => rfl
      | cons s l ih => rw [fresh, if_neg (by simp [cnt]), ih]
    exact this _
  have h1 := lns_length a
  have h2 := lns_length b
  have h3 := com_le_r a b
  have := rcommon_loop (lns b) (by omega) (lns a) [] 0 (by simp; omega) (by rw [hf]; unfold com at h3; omega)
  rw [hf, Nat.zero_add] at this
  exact this
/-- The score. -/
def sc (a b : ByteArray) : Nat := if max a.size b.size = 0 then 100 else 100 * com a b / max a.size b.size
theorem score_f (a b : ByteArray) (hb : b.size < 8796093022208) : simil_score.f (a.size : Int) (b.size : Int) (com a b : Int) = some (sc a b : Int) := by
  have h3 := com_le_r a b
  have hd := Nat.div_le_self (100 * com a b) (max a.size b.size)
  unfold simil_score.f sc
  rw [mx_nat]
  by_cases p : max a.size b.size = 0
  · rw [if_pos (by omega), if_pos p]
    rfl
  · rw [if_neg (by omega), if_neg p, w64 (n := 100 * (com a b : Int)) (by omega) (by omega), show (100 : Int) * (com a b : Int) = ((100 * com a b : Nat) : Int) by omega, Int.tdiv_eq_ediv_of_nonneg (by omega), ← Int.natCast_ediv, w64n (by omega)]
theorem score_ev (a b : ByteArray) (ha : a.size < 8796093022208) (hb : b.size < 8796093022208) : Ev (fun k => simil_Score.f k a b) (sc a b : Int) := by
  unfold simil_Score.f
  refine Ev.bind (common_ev a b ha hb) ?_
  rw [score_f a b hb]
  exact Ev.now _
theorem by_nil_size (a : ByteArray) : (a.toList = ([] : List UInt8)) ↔ a.size = 0 := by rw [toList_nil, by_size, List.length_eq_zero_iff]
theorem rscore_ev (a b : ByteArray) (ha : a.size < 8796093022208) (hb : b.size < 8796093022208) : Ev (fun k => graftageref11_Score.f k a b) (sc a b : Int) := by
  have h3 := com_le_r a b
  have h4 := com_le_l a b
  have e : ∀ k, graftageref11_Score.f k a b = graftageref11_Score.j0 k a b (decide (a.size = 0 ∧ b.size = 0)) := by
    intro k
    unfold graftageref11_Score.f
    by_cases p : a.size = 0
    · rw [if_pos ((by_nil_size a).2 p)]
      congr 1
      by_cases q : b.size = 0
      · rw [decide_eq_true (⟨p, q⟩ : a.size = 0 ∧ b.size = 0), (by_nil_size b).2 q]
        rfl
      · rw [decide_eq_false (fun h : a.size = 0 ∧ b.size = 0 => q h.2)]
        rw [beq_eq_false_iff_ne]
        exact fun h => q ((by_nil_size b).1 h)
    · rw [if_neg (fun h => p ((by_nil_size a).1 h)), decide_eq_false (fun h : a.size = 0 ∧ b.size = 0 => p h.1)]
  refine Ev.congr e ?_
  by_cases pq : a.size = 0 ∧ b.size = 0
  · rw [decide_eq_true pq]
    refine Ev.end_ fun k => ?_
    rw [graftageref11_Score.j0, if_pos rfl]
    unfold sc
    rw [if_pos (by omega)]
    rfl
  · rw [decide_eq_false pq]
    by_cases p : a.size = 0
    · refine Ev.end_ fun k => ?_
      rw [graftageref11_Score.j0, if_neg (by simp), if_pos ((by_nil_size a).2 p)]
      unfold sc
      rw [if_neg (by omega), show com a b = 0 by omega]
      simp
    · by_cases q : b.size = 0
      · refine Ev.end_ fun k => ?_
        rw [graftageref11_Score.j0, if_neg (by simp), if_neg (fun h => p ((by_nil_size a).1 h)), if_pos ((by_nil_size b).2 q)]
        unfold sc
        rw [if_neg (by omega), show com a b = 0 by omega]
        simp
      · have hd := Nat.div_le_self (100 * com a b) (max a.size b.size)
        refine Ev.step (fun k => by rw [graftageref11_Score.j0, if_neg (by simp), if_neg (fun h => p ((by_nil_size a).1 h)), if_neg (fun h => q ((by_nil_size b).1 h))]) (Ev.bind (rcommon_ev a b ha hb) ?_)
        rw [mx_nat, if_neg (by omega), w64 (n := 100 * (com a b : Int)) (by omega) (by omega), show (100 : Int) * (com a b : Int) = ((100 * com a b : Nat) : Int) by omega, Int.tdiv_eq_ediv_of_nonneg (by omega), ← Int.natCast_ediv, w64n (by omega)]
        unfold sc
        rw [if_neg (by omega)]
        exact Ev.now _
theorem lives_ev : Ev (fun k => graftagelaw11_lives.f k) true := by
  unfold graftagelaw11_lives.f
  refine Ev.bind (common_ev _ _ (by decide) (by decide)) ?_
  refine Ev.congr (fun k => if_pos (by decide)) ?_
  refine Ev.bind (score_ev _ _ (by decide) (by decide)) ?_
  refine Ev.congr (fun k => if_pos (by decide)) ?_
  refine Ev.bind (score_ev _ _ (by decide) (by decide)) ?_
  refine Ev.congr (fun k => if_pos (by decide)) ?_
  exact Ev.bind (score_ev _ _ (by decide) (by decide)) (Ev.now _)
/-- Is a string small enough to be checked? -/
theorem few_ev (a : ByteArray) : (a.size ≤ 3000 ∧ Ev (fun k => graftagelaw11_few.f k a) true) ∨ Ev (fun k => graftagelaw11_few.f k a) false := by
  unfold graftagelaw11_few.f
  by_cases p : a.size ≤ 3000
  · simp only [if_pos (show (a.size : Int) ≤ 3000 by omega)]
    have h := Ev.bind (f := fun _ (t : List ByteArray) => some (decide ((t.length : Int) ≤ 120))) (rsplit_ev a (by omega)) (Ev.now _)
    by_cases q : ((lns a).length : Int) ≤ 120
    · rw [decide_eq_true q] at h
      exact .inl ⟨p, h⟩
    · rw [decide_eq_false q] at h
      exact .inr h
  · simp only [if_neg (show ¬ (a.size : Int) ≤ 3000 by omega)]
    exact .inr (Ev.now _)
end Go.Proofs.Ythphnacnjbcpiaa.Pl
