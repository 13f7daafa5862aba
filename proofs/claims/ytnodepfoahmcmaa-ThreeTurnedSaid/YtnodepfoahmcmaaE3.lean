/- The engine, bundle 3: values as trees, abstract code, and that what abstract code says the machine does. Conditions: none. -/
import Derived.Below
import Derived.BigCall
import Derived.ChangeArms
import Derived.DataReads
import Derived.Deep.Slices
import Derived.Laws.Sem
import Derived.Orders
import Derived.SizedLaws
import Derived.WideShapes
import Derived.Test.YtnodepfoahmcmaaE2
/- The engine, part XL: appending to rows that may be written, put together. Conditions: none. -/
namespace Go.Proofs.Ytnodepfoahmcmaa.E
open Go.MapKept
set_option linter.unusedVariables false
set_option linter.unusedSimpArgs false

section
variable {P : Program} {w : World} {G : Nat → Nat} {φ : Nat → Option Nat} {ρ : Operand → Value} {o : Oper} {xs : List V} {vs : List Value} {heap : Heap} {n : Nat} {q : V × Heap × Nat}

theorem ext_drew (w : World) (G : Nat → Nat) : Ext w G w.drew G := ⟨fun _ => Nat.le_refl _, fun _ _ _ => rfl, fun _ cs _ fr h => ⟨cs, fr, h, rfl, .inl rfl⟩, Nat.le_refl _, rfl, rfl, rfl⟩
theorem HPre.drew (h : HPre w G φ xs vs heap n) : HPre w.drew G φ xs vs heap n where
  ok := h.ok.imp fun a b hh => ⟨hh.1.mono (ext_drew w G) fun _ _ h => h, hh.2.mono (ext_drew w G) fun _ _ => rfl⟩
  reps p hp := (h.reps p hp).mono (ext_drew w G) (fun _ _ h => h) fun c _ => ⟨rfl, rfl⟩
  sorted := h.sorted
  cnt b := h.cnt b
  ctr := h.ctr
  zero := h.zero
theorem HRes.ofDrew {r : V} {heap' : Heap} {n' : Nat} {u : Value} {w' : World} {G' : Nat → Nat} {φ' : Nat → Option Nat} (H : HRes w.drew G φ xs vs heap n r heap' n' u w' G' φ') : HRes w G φ xs vs heap n r heap' n' u w' G' φ' :=
  ⟨H.rel, H.tail, H.reps, H.sorted, H.cnt, H.ctr, H.le, H.zero, (ext_drew w G).trans H.ext, H.mono, fun b hb h0 => H.fr b hb h0⟩

theorem mem_zeroCells {zc : Array Value} {k : Nat} {u : Value} (h : u ∈ (Builtin.zeroCells zc k).toList) : u ∈ zc.toList := by
  unfold Builtin.zeroCells at h
  rw [Array.toList_map, Array.toList_range] at h
  obtain ⟨j, hj, rfl⟩ := List.mem_map.1 h
  have hj' := List.mem_range.1 hj
  have h0 : 0 < zc.size := by
    rcases Nat.eq_zero_or_pos zc.size with e | e
    · rw [e] at hj'; omega
    · exact e
  have hlt : j % zc.size < zc.size := Nat.mod_lt _ h0
  rw [getElem!_pos zc _ hlt]
  exact Array.mem_toList_iff.2 (Array.getElem_mem hlt)

/-- Rows that are appended: the source general. -/
theorem app_hs {t t2 e ty : TypeId} {i : TypeInfo} {z : Value} {b z1 off m : Nat} {L : List V} {news : List Value} {v1 x : Value} (hu : P.underlying t = some (.slice e)) (hi : P.info? e = some i) (hsz : 0 < i.size) (hz : i.zero = some z) (hzs : z.cells.size = i.size) (hz1 : ∀ u ∈ z.cells.toList, u.oneCell' = true)
    (h : HPre w G φ xs vs heap n) (r1 : R w G φ (.hs b z1 off m) v1) (hsrc : Src P i.size t2 x L.length news w) (hnl : news.length = L.length * i.size) (hone : ∀ u ∈ news, u.oneCell' = true) (n1 : (L.flatMap V.cells).length = news.length) (n2 : ∀ x ∈ L, x.cells.length = i.size)
    (n3 : ∀ p (h : p < (L.flatMap V.cells).length), R w G φ (L.flatMap V.cells)[p] (news.getD p undef) ∧ Tail1 w G (L.flatMap V.cells)[p] (news.getD p undef)) (n4 : ∀ q, sumTk ((L.flatMap V.cells).zip news) q ≤ vtk xs vs q) (hq : appBL i.size i.bytes b z1 off m L heap n = some q) :
    ∃ v w' G' φ', (Builtin.append_ #[t, t2] ty #[v1, x]).run P w = .ok v w' ∧ HRes w G φ xs vs heap n q.1 q.2.1 (n + q.2.2) v w' G' φ' := by
  have hv1 : ∃ a cap, v1 = .slice a m cap ∧ m ≤ cap := by
    cases r1 with
    | hsNil => exact ⟨none, 0, rfl, Nat.le_refl _⟩
    | hs _ _ _ _ _ cap mm oo cs el fr hφ hl => exact ⟨_, cap, rfl, hl⟩
  unfold appBL at hq
  by_cases hl0 : L.length = 0
  · rw [if_pos hl0] at hq
    injection hq with hq; subst hq
    obtain ⟨a, cap, rfl, hle⟩ := hv1
    have hn0 : news = [] := List.eq_nil_of_length_eq_zero (by rw [hnl, hl0]; simp)
    rw [hl0, hn0] at hsrc
    have hrun := run_append_nothing (P := P) w t t2 ty e i hu hi a m cap hle _ hsrc
    exact ⟨_, w, G, φ, hrun, HRes.same h r1 (Tail_plain rfl _) fun b => tk_plain rfl _ b⟩
  · rw [if_neg hl0] at hq
    split at hq <;> first | (cases hq; done) | skip
    rename_i hc
    obtain ⟨hb1, hb2⟩ := hc
    have hpos : 0 < L.length := Nat.pos_of_ne_zero hl0
    have hb1' : (m + L.length) * i.bytes ≤ 17592186044416 := hb1
    have hb2' : m + L.length ≤ 17592186044416 := hb2
    by_cases hz0 : z1 = 0
    · rw [if_pos hz0] at hq
      split at hq <;> first | (cases hq; done) | skip
      rename_i hm0
      subst hm0
      injection hq with hq; subst hq
      cases r1 with
      | hs _ _ _ _ _ cap k' oo cs' el' fr' hφ hl ho hb hs' hz' => omega
      | hsNil =>
        have hrun := run_append_grow_src (P := P) w t t2 ty e i z hu hi hz none 0 0 [] (run_firstCells_none w.drew _ _ _ _) x L.length news hsrc (by omega) (by omega) (growslice_fits (by omega) (by omega))
        have hge := grownCap_ge w (0 + L.length) 0 e
        generalize hcap : grownCap w (0 + L.length) 0 e = cap at hrun hge
        rw [Nat.zero_add] at hrun hge
        obtain ⟨φ', hφ'⟩ : ∃ φ' : Nat → Option Nat, φ' = fun b => if b = n then some w.drew.heap.size else φ b := ⟨_, rfl⟩
        have hnew : φ' n = some w.drew.heap.size := by rw [hφ']; simp
        generalize hrow : (([] ++ news).toArray ++ Builtin.zeroCells z.cells (cap - L.length)) = row at hrun
        have hblk : (w.drew.alloc (.cells row e)).heap[w.drew.heap.size]? = some (.cells row e) := heap_alloc_new w.drew _
        have hrl : row.toList = news ++ (Builtin.zeroCells z.cells (cap - L.length)).toList := by rw [← hrow]; simp
        have hrs : row.size = cap * i.size := by
          rw [← hrow, Array.size_append, size_zeroCells, hzs]
          simp only [List.nil_append, List.size_toArray, hnl]
          rw [← Nat.add_mul]
          congr 1
          omega
        have hns : news.length ≤ row.size := by rw [hrs, hnl]; exact Nat.mul_le_mul_right _ hge
        have hgd : ∀ p, p < news.length → row.getD p undef = news.getD p undef := fun p hp => by
          have h9 : p < row.size := by omega
          have e1 : row.getD p undef = row.toList.getD p undef := by
            rw [List.getD_eq_getElem?_getD, Array.getElem?_toList]
            simp [Array.getD, h9]
          rw [e1, hrl, List.getD_eq_getElem?_getD, List.getElem?_append_left hp, ← List.getD_eq_getElem?_getD]
        refine ⟨_, _, G, φ', hrun, HRes.ofDrew (HRes.new (obj := .cells row e) h.drew hφ' (fun hext hmono => rows_in hnew (h.zero _ (Nat.le_refl _)) hblk (fun p _ hp => by omega) (by rw [n1]; exact hns) (fun u hu' => ?_) n2 (fun p hp => ?_)) (fun p => ?_) ?_ (Tail_plain rfl _))⟩
        · have hul : u ∈ row.toList := by simpa using hu'
          rw [hrl] at hul
          rcases List.mem_append.1 hul with hul | hul
          · exact hone u hul
          · exact hz1 u (mem_zeroCells hul)
        · rw [hgd p (by omega)]
          obtain ⟨g1, g2⟩ := n3 p hp
          exact ⟨(g1.mono (ext_drew w G) fun _ _ h => h).mono hext hmono, (g2.mono (ext_drew w G) fun _ _ => rfl).mono hext fun _ _ => rfl⟩
        · rw [lv_rows hnew hblk, tk_plain rfl]
          have z3 : sumTk ((L.flatMap V.cells).zip row.toList) p = sumTk ((L.flatMap V.cells).zip news) p := by rw [hrl, zip_left n1]
          have z5 := n4 p
          omega
        · exact .hs _ n i.size 0 L.length cap w.drew.heap.size 0 row e (0, 0) hnew hge (fun _ => by simp) hblk (by rw [hrs]; omega) hsz
    · rw [if_neg hz0] at hq
      split at hq <;> first | (cases hq; done) | skip
      rename_i hc
      obtain ⟨rfl, rfl⟩ := hc
      split at hq <;> first | (cases hq; done) | skip
      rename_i sz' l hg
      split at hq <;> first | (cases hq; done) | skip
      rename_i hc
      obtain ⟨rfl, hml⟩ := hc
      injection hq with hq; subst hq
      obtain ⟨k, cells, el, fr, e1, e2, e3, e4, e5, e6, e7, e8⟩ := rows_out (h.reps _ (get_mem hg))
      generalize hzz : i.size = zz at *
      cases r1 with
      | hsNil => exact absurd rfl hz0
      | hs _ _ _ _ _ cap k' oo cs' el' fr' hφ hl ho hb hs' hz' =>
        subst hzz
        have hkk : k' = k := by rw [e1] at hφ; injection hφ with hφ; exact hφ.symm
        subst hkk
        have hcs : cs' = cells := by rw [e3] at hb; injection hb with hb; injection hb with hb _ _; exact hb.symm
        subst hcs
        by_cases hfit : m + L.length ≤ cap
        · have hoo : oo = 0 := by have := ho (by omega); omega
          subst hoo
          have hcap : cap * i.size ≤ cs'.size := by omega
          have hnl2 : m * i.size + news.length ≤ cs'.size := by
            have : (m + L.length) * i.size ≤ cap * i.size := Nat.mul_le_mul_right _ hfit
            rw [Nat.add_mul] at this
            omega
          have hrun := run_append_room_src (P := P) w t t2 ty e i hu hi k' 0 m cap _ L.length news hsrc hfit (fun j hj => by
            rw [cell_of_row w _ _ cs' el fr e3, Array.getElem?_eq_getElem (by omega)]; rfl) (fun j hj => by
            have := e4 (0 + m * i.size + j) (by omega)
            simp only [World.frozen?, e3]
            simpa using this)
          rw [Nat.zero_add] at hrun
          exact ⟨_, _, _, _, hrun, app_place h hg hsz hml e1 e2 e3 e4 e5 e6 e7 e8 hfit hcap hnl hone n1 n2 n3 n4⟩
        · have hmsz : m * i.size ≤ cs'.size := by
            have h9 := (flatMap_get l e7).1
            have : m * i.size ≤ l.length * i.size := Nat.mul_le_mul_right _ hml
            omega
          obtain ⟨olds, hol⟩ : ∃ olds, olds = cs'.toList.take (m * i.size) := ⟨_, rfl⟩
          have holl : olds.length = m * i.size := by rw [hol, List.length_take, Array.length_toList]; omega
          have hold := run_firstCells_some (P := P) w.drew i.size m ⟨k', oo, none⟩ m cap olds holl (fun j u hu => by
            have hj : j < m * i.size := by
              have := (List.getElem?_eq_some_iff.1 hu).1
              omega
            have hm0 : 0 < m := by
              rcases Nat.eq_zero_or_pos m with e0 | e0
              · subst e0; omega
              · exact e0
            have hoo : oo = 0 := by have := ho (by omega); omega
            subst hoo
            rw [hol, List.getElem?_take_of_lt hj, Array.getElem?_toList] at hu
            rw [add_none]
            show w.cell? _ = _
            rw [cell_of_row w _ _ cs' el fr e3, ← hu]
            congr 1
            omega)
          have hrun := run_append_grow_src (P := P) w t t2 ty e i z hu hi hz (some ⟨k', oo, none⟩) m cap olds hold _ L.length news hsrc (by omega) (by omega) (growslice_fits (by omega) (by omega))
          have hge := grownCap_ge w (m + L.length) cap e
          have hzc : (Builtin.zeroCells z.cells (grownCap w (m + L.length) cap e - (m + L.length))).size = (grownCap w (m + L.length) cap e - (m + L.length)) * i.size := by rw [size_zeroCells, hzs]
          refine ⟨_, _, _, _, hrun, app_grow (cells' := (olds ++ news).toArray ++ Builtin.zeroCells z.cells (grownCap w (m + L.length) cap e - (m + L.length))) (el' := e) (rest := (Builtin.zeroCells z.cells (grownCap w (m + L.length) cap e - (m + L.length))).toList) h hg hsz hml e1 e2 e3 e4 e5 e6 e7 e8 hge ?_ ?_ ?_ hnl hone n1 n2 n3 n4⟩
          · rw [Array.size_append, hzc]
            simp only [List.size_toArray, List.length_append, holl, hnl]
            rw [← Nat.add_mul, ← Nat.add_mul]
            exact Nat.mul_le_mul_right _ (by omega)
          · rw [Array.toList_append, hol]
            simp
          · intro u hu
            exact hz1 u (mem_zeroCells hu)

/-- What stands in rows that may be written, one cell behind the other. -/
theorem hs_news {b z off m : Nat} {l : List V} {v : Value} (h : HPre w G φ xs vs heap n) (hr : R w G φ (.hs b z off m) v) (hg : get heap b = some (.rows z l)) (hle : off + m ≤ l.length) (hz : z ≠ 0) (hm : m ≠ 0) :
    ∃ blk cap, v = .slice (some ⟨blk, off * z, none⟩) m cap ∧ ∃ news : List Value, news.length = m * z ∧ (∀ u ∈ news, u.oneCell' = true) ∧ (∀ j u, news[j]? = some u → w.cell? ((⟨blk, off * z, none⟩ : Addr).add j) = some u) ∧
      (∀ k (h : k < ((l.drop off).take m).length), (((l.drop off).take m)[k]).cells.length = z) ∧ ∀ k j (h : k < ((l.drop off).take m).length) (hj : j < (((l.drop off).take m)[k]).cells.length), R w G φ ((((l.drop off).take m)[k]).cells[j]) (news.getD (k * z + j) undef) := by
  obtain ⟨k, cells, el, fr, e1, e2, e3, e4, e5, e6, e7, e8⟩ := rows_out (h.reps _ (get_mem hg))
  obtain ⟨f1, f2⟩ := flatMap_get l e7
  cases hr with
  | hsNil => exact absurd rfl hz
  | hs _ _ _ _ _ cap k' oo cs' el' fr' hφ hl ho hb hs' hz' =>
    have hkk : k' = k := by rw [e1] at hφ; injection hφ with hφ; exact hφ.symm
    subst hkk
    have hoo : oo = off * z := ho (by omega)
    subst hoo
    have hlen : (off + m) * z ≤ cells.size := Nat.le_trans (Nat.mul_le_mul_right _ hle) (by rw [← f1]; exact e5)
    rw [Nat.add_mul] at hlen
    obtain ⟨news, hnews⟩ : ∃ news, news = (cells.toList.drop (off * z)).take (m * z) := ⟨_, rfl⟩
    have hnl : news.length = m * z := by rw [hnews, List.length_take, List.length_drop, Array.length_toList]; omega
    have hat : ∀ p, p < m * z → news[p]? = cells[off * z + p]? := fun p hp => by
      rw [hnews, List.getElem?_take_of_lt hp, List.getElem?_drop, Array.getElem?_toList]
    refine ⟨k', cap, rfl, news, hnl, fun u hu => ?_, fun j u hu => ?_, fun i hi => ?_, fun i j hi hj => ?_⟩
    · rw [hnews] at hu
      exact e6 u (by simpa using List.mem_of_mem_drop (List.mem_of_mem_take hu))
    · have hj : j < m * z := by rw [← hnl]; exact (List.getElem?_eq_some_iff.1 hu).1
      rw [hat j hj] at hu
      rw [add_none]
      rw [cell_of_row w _ _ cells el fr e3, ← hu]
    · exact e7 _ (List.mem_of_mem_drop (List.mem_of_mem_take (List.getElem_mem hi)))
    · have him : i < m := by rw [List.length_take] at hi; omega
      have ee : ((l.drop off).take m)[i] = l[off + i]'(by omega) := by rw [List.getElem_take, List.getElem_drop]
      simp only [ee] at hj ⊢
      have hjz : j < z := by rw [e7 _ (List.getElem_mem _)] at hj; exact hj
      have hp : i * z + j < m * z := by
        have : (i + 1) * z ≤ m * z := Nat.mul_le_mul_right _ him
        rw [Nat.succ_mul] at this
        omega
      have hF : (off + i) * z + j < (l.flatMap V.cells).length := by
        rw [f1]
        have : (off + i + 1) * z ≤ l.length * z := Nat.mul_le_mul_right _ (by omega)
        rw [Nat.succ_mul] at this
        omega
      have h9 := (e8 _ hF).1
      rw [f2 (off + i) j (by omega) hj hF] at h9
      have hlt : off * z + (i * z + j) < cells.size := by omega
      have e10 : news.getD (i * z + j) undef = cells.getD ((off + i) * z + j) undef := by
        rw [List.getD_eq_getElem?_getD, hat _ hp, Nat.add_mul, Nat.add_assoc]
        simp [Array.getD, hlt]
      rw [e10]
      exact h9

theorem zeroOne_spec {t e : TypeId} {i : TypeInfo} {z : Value} (h : zeroOne P t = true) (hu : P.underlying t = some (.slice e)) (hi : P.info? e = some i) (hz : i.zero = some z) : ∀ u ∈ z.cells.toList, u.oneCell' = true := by
  unfold zeroOne at h
  rw [hu] at h
  simp only [hi, hz, List.all_eq_true] at h
  exact h

theorem appB_eq {sz bytes b z off m : Nat} {l' : List V} {h : Heap} {n : Nat} : appB sz bytes b z off m l' h n = appBL sz bytes b z off m (l'.map clr2) h n := by
  unfold appB appBL
  simp only [List.length_map]
theorem clr_R {L : List V} {news : List Value} (n3 : ∀ p (h : p < (L.flatMap V.cells).length), R w G φ (L.flatMap V.cells)[p] (news.getD p undef) ∧ ∃ y, (L.flatMap V.cells)[p] = clr1 y) (p : Nat) (h : p < (L.flatMap V.cells).length) : R w G φ (L.flatMap V.cells)[p] (news.getD p undef) ∧ Tail1 w G (L.flatMap V.cells)[p] (news.getD p undef) := by
  obtain ⟨g1, y, g2⟩ := n3 p h
  exact ⟨g1, by rw [g2]; exact Tail1_clr1 _ _ _ _⟩
theorem clr_0 {L : List V} {news : List Value} {vs : List Value} (n3 : ∀ p (h : p < (L.flatMap V.cells).length), R w G φ (L.flatMap V.cells)[p] (news.getD p undef) ∧ ∃ y, (L.flatMap V.cells)[p] = clr1 y) (q : Nat) : sumTk ((L.flatMap V.cells).zip news) q ≤ vtk xs vs q := by
  rw [sumTk_zero fun pr hpr => ?_]
  · exact Nat.zero_le _
  · obtain ⟨a, c⟩ := pr
    obtain ⟨j, hj, rfl⟩ := List.mem_iff_getElem.1 (List.of_mem_zip hpr).1
    obtain ⟨_, y, g2⟩ := n3 j hj
    simp only [g2]
    exact tk1_clr1 _ _ _

theorem ok_appH {args : Array Operand} {t t2 : TypeId} {sz bytes : Nat} (hop : o.op = .call { callee := .builtin .append, args, argTypes := #[t, t2] }) (hel : elemIs P t sz bytes = true) (hsl : isSl P t2 = true) (hzo : zeroOne P t = true) (h : HPre w G φ xs ((opArgs o.op).map ρ) heap n) (hq : hf (.appH sz bytes) xs heap n = some q) : HDoes P w G φ ρ o xs heap n q := by
  have hv0 : voidB o.op = false := by rw [hop]; rfl
  obtain ⟨e, i, z, hu, hi, rfl, rfl, hsz, hz, hzs⟩ := elemIs_spec hel
  have hz1 := zeroOne_spec hzo hu hi hz
  have hu2 : ∃ e', P.underlying t2 = some (.slice e') := by
    unfold isSl at hsl
    split at hsl
    · exact ⟨_, by assumption⟩
    · cases hsl
  obtain ⟨e', hu2⟩ := hu2
  have hs0 := exec_builtin (ρ := ρ) hop
  have hb0 : ∀ ty cs args, builtin .append #[t, t2] ty cs args = (do pure (.value (← Builtin.append_ #[t, t2] ty args))) := fun _ _ _ => rfl
  rw [hb0] at hs0
  have h0 := h.ok
  rw [hop] at h0
  have hopA : opArgs o.op = args.toList := by rw [hop]; rfl
  simp only [hf] at hq
  split at hq <;> first | (cases hq; done) | skip
  · rename_i b z1 off m own' z' l'
    split at hq <;> first | (cases hq; done) | skip
    rename_i hzl
    obtain ⟨v1, v2, hv, ⟨r1, _⟩, ⟨r2, _⟩⟩ := all2_2 h0
    simp only [opArgs] at hv
    rw [args_2 hv] at hs0
    have hv2 : ∃ a n cap, v2 = .slice a n cap := by
      cases r2 with
      | slNil _ _ _ a cap => exact ⟨a, 0, cap, rfl⟩
      | sl _ _ _ _ blk off cap => exact ⟨_, _, cap, rfl⟩
    obtain ⟨a2, n2, cap2, rfl⟩ := hv2
    obtain ⟨hn, hsh, news, hnl, hone, hcell, z2, rr⟩ := sl_news r2
    subst hn
    by_cases hl0 : l'.length = 0
    · have hl' : l' = [] := List.eq_nil_of_length_eq_zero hl0
      subst hl'
      have hsrc : Src P i.size t2 (.slice a2 ([] : List V).length cap2) ([] : List V).length [] w := by
        cases a2 with
        | none => exact Src.ofNil w hu2 cap2
        | some ad => exact Src.ofSlice w hu2 ad 0 cap2 [] (by simp) (by simp) (by simp)
      obtain ⟨v, w', G', φ', hrun, H⟩ := app_hs (ty := o.type) (L := []) (news := []) hu hi hsz hz hzs hz1 h r1 hsrc (by simp) (by simp) (by simp) (by simp) (by simp) (by simp [sumTk]) (by simpa [appB_eq] using hq)
      exact ⟨v, w', G', φ', by rw [hv0, hs0]; exact exec_vm hrun, H⟩
    · obtain rfl : z' = i.size := hzl.resolve_right hl0
      have hsrc : Src P i.size t2 (.slice a2 l'.length cap2) l'.length news w := by
        rcases hsh with h0 | ⟨blk, off, rfl, _⟩
        · exact absurd (by rw [h0]; rfl) hl0
        · exact Src.ofSlice w hu2 _ _ _ news hnl (hcell _ rfl) hone
      obtain ⟨n1, n2, n3⟩ := news_flat (φ := φ) hsz z2 hnl (fun k j hk hj => (rr k j hk hj).mono (Ext.refl _ _) fun b m hb => by cases hb)
      obtain ⟨v, w', G', φ', hrun, H⟩ := app_hs (ty := o.type) hu hi hsz hz hzs hz1 h r1 (by rw [List.length_map]; exact hsrc) (by rw [List.length_map]; exact hnl) hone n1 n2 (clr_R n3) (clr_0 n3) (by rw [← appB_eq]; exact hq)
      exact ⟨v, w', G', φ', by rw [hv0, hs0]; exact exec_vm hrun, H⟩
  · rename_i b z1 off m b2 z2' off2 m2
    obtain ⟨v1, v2, hv, ⟨r1, _⟩, ⟨r2, _⟩⟩ := all2_2 h0
    simp only [opArgs] at hv
    rw [args_2 hv] at hs0
    by_cases hm2 : m2 = 0
    · subst hm2
      rw [if_pos rfl] at hq
      have hv2 : ∃ a cap, v2 = .slice a 0 cap := by
        cases r2 with
        | hsNil => exact ⟨none, 0, rfl⟩
        | hs _ _ _ _ _ cap => exact ⟨_, cap, rfl⟩
      obtain ⟨a2, cap2, rfl⟩ := hv2
      have hsrc : Src P i.size t2 (.slice a2 0 cap2) ([] : List V).length [] w := by
        cases a2 with
        | none => exact Src.ofNil w hu2 cap2
        | some ad => exact Src.ofSlice w hu2 ad 0 cap2 [] (by simp) (by simp) (by simp)
      obtain ⟨v, w', G', φ', hrun, H⟩ := app_hs (ty := o.type) (L := []) (news := []) hu hi hsz hz hzs hz1 h r1 hsrc (by simp) (by simp) (by simp) (by simp) (by simp) (by simp [sumTk]) (q := q) (by simpa [appBL] using hq)
      exact ⟨v, w', G', φ', by rw [hv0, hs0]; exact exec_vm hrun, H⟩
    · rw [if_neg hm2] at hq
      split at hq <;> first | (cases hq; done) | skip
      rename_i hz2
      subst hz2
      split at hq <;> first | (cases hq; done) | skip
      rename_i sz2 l2 hg2
      split at hq <;> first | (cases hq; done) | skip
      rename_i hc
      obtain ⟨rfl, hle⟩ := hc
      obtain ⟨blk, cap, rfl, news, hnl, hone, hcell, z2, rr⟩ := hs_news h r2 hg2 hle (by omega) hm2
      have hl2 : ((l2.drop off2).take m2).length = m2 := by rw [List.length_take, List.length_drop]; omega
      have hsrc : Src P i.size t2 (.slice (some ⟨blk, off2 * i.size, none⟩) m2 cap) ((l2.drop off2).take m2).length news w := by
        rw [hl2]
        exact Src.ofSlice w hu2 _ _ _ news hnl hcell hone
      obtain ⟨n1, n2, n3⟩ := news_flat (φ := φ) hsz z2 (by rw [hl2]; exact hnl) rr
      obtain ⟨v, w', G', φ', hrun, H⟩ := app_hs (ty := o.type) hu hi hsz hz hzs hz1 h r1 (by rw [List.length_map]; exact hsrc) (by rw [List.length_map, hl2]; exact hnl) hone n1 n2 (clr_R n3) (clr_0 n3) (by rw [← appB_eq]; exact hq)
      exact ⟨v, w', G', φ', by rw [hv0, hs0]; exact exec_vm hrun, H⟩

theorem ok_lookT {t : TypeId} {om ok' : Operand} {zero : V} {ks : List Nat} {kt et : TypeId} (hop : o.op = .lookup t om ok' false) (hm : P.underlying t = some (.map kt et)) (hk : keyIs P kt ks = true) (hz : zeroOk P et zero = true) (h : HPre w G φ xs ((opArgs o.op).map ρ) heap n) (hq : hf (.lookT zero false ks) xs heap n = some q) : HDoes P w G φ ρ o xs heap n q := by
  have hv0 : voidB o.op = false := by rw [hop]; rfl
  obtain ⟨z, hzr, hzR, hzt, hz0⟩ : ∃ z, (∀ w, (zeroValue et).run P w = .ok z w) ∧ R w G φ zero z ∧ Tail w G zero z ∧ ∀ b, tk zero z b = 0 := by
    unfold zeroOk at hz
    split at hz <;> first | (cases hz; done) | skip
    rename_i i hi
    split at hz <;> first | (cases hz; done) | skip
    rename_i z hz'
    rw [Bool.and_eq_true] at hz
    obtain ⟨a1, a2, a3⟩ := okC_R (w := w) (G := G) (φ := φ) hz.1
    exact ⟨z, run_zeroValue' hi hz', a1, a2, a3⟩
  obtain ⟨d, hd⟩ : ∃ d, P.underlying kt = some d := by
    unfold keyIs at hk
    cases hu : P.underlying kt with
    | none => rw [hu] at hk; cases hk
    | some d => exact ⟨d, rfl⟩
  simp only [hf] at hq
  have h0 := h
  rw [hop] at h0
  split at hq <;> first | (cases hq; done) | skip
  rename_i b k
  split at hq <;> first | (cases hq; done) | skip
  rename_i es hg
  split at hq <;> first | (cases hq; done) | skip
  rename_i hnk
  obtain ⟨qq, hf, hq⟩ := Option.map_eq_some_iff.1 hq
  obtain ⟨v1, v2, hv, ⟨r1, _⟩, ⟨r2, _⟩⟩ := all2_2 h0.ok
  simp only [opArgs, List.map_cons, List.map_nil, List.cons.injEq, and_true] at hv
  cases r1 with | hm _ _ m' hm' =>
  obtain ⟨m, en, clk, e1, e2, e3, e4, e5⟩ := map_out (h.reps _ (get_mem hg))
  rw [e1] at hm'; injection hm' with hm'; subst hm'
  have hkR : R w G (fun _ => none) k v2 := r2.noH2 hnk
  rcases find_ok hd hk r2 es en.toList 0 qq e5 hf with ⟨rfl, f1⟩ | ⟨j, hj, j1, j2, rfl, f1, f2, _⟩
  · subst hq
    refine ⟨_, w, G, φ, ?_, HRes.same h hzR hzt hz0⟩
    rw [hv0]
    unfold execOp; rw [hop]
    refine exec_v ?_
    rw [hv.1, hv.2]
    simp only [Instr.lookup, Sem.run_bind, run_underlying hm, Result.andThen_ok, Sem.run_pure, Go.MapKept.run_getObj_map e3]
    simp [checkKey_ok hd hk, run_findKey hd f1, hzr, Result.andThen]
  · subst hq
    have hat := e5.at_ j j1 j2
    simp only [Nat.zero_add]
    have hM : MRep w G φ (es.set j (k, clr2 es[j].2)) en.toList := by
      refine ⟨by rw [List.length_set]; exact e5.len, fun i h1 h2 => ?_⟩
      rw [List.length_set] at h1
      have hai := e5.at_ i h1 h2
      rw [List.getElem_set]
      by_cases hi : j = i
      · subst hi
        simp only [if_true]
        refine ⟨by rw [f2]; exact hkR, hat.2.1.clr2, clr2_not_tup hat.2.2.1, by rw [cells_clr2, List.length_map]; exact hat.2.2.2.1, ?_⟩
        have e : clr es[j].2 = clr2 es[j].2 := by
          have := hat.2.2.1
          cases hh : es[j].2 <;> first | rfl | exact absurd hh (this _)
        rw [← e]
        exact Tail_clr _ _ _ _
      · rw [if_neg hi]
        exact hai
    have hlv0 : leaves es[j].2 en.toList[j].val = es[j].2.cells.zip en.toList[j].val.cells.toList := leaves_of_not_tup hat.2.2.1
    refine ⟨_, w, G, φ, ?_, HRes.upd (blk' := .map (es.set j (k, clr2 es[j].2))) h hg e1 e2 (fun _ _ => rfl) rfl (fun cs _ _ hc => ⟨cs, hc, rfl⟩) rfl rfl rfl (fun _ => map_in e1 e2 e3 e4 hM) (fun p => ?_) hat.2.1 hat.2.2.2.2⟩
    · rw [hv0]
      unfold execOp; rw [hop]
      refine exec_v ?_
      rw [hv.1, hv.2]
      simp only [Instr.lookup, Sem.run_bind, run_underlying hm, Result.andThen_ok, Sem.run_pure, Go.MapKept.run_getObj_map e3]
      simp [checkKey_ok hd hk, run_findKey hd f1, Result.andThen]
    · rw [lv_map e1 e3 hM, lv_map e1 e3 e5]
      have hs := mTk_set (k, clr2 es[j].2) en.toList[j] j1 j2 p
      rw [List.set_getElem_self] at hs
      have hz : sumTk ((clr2 es[j].2).cells.zip en.toList[j].val.cells.toList) p = 0 := by
        rw [cells_clr2]
        refine sumTk_zero fun pr hpr => ?_
        obtain ⟨y, hy⟩ := mem_zip_map hpr
        rw [hy]
        exact tk1_clr1 _ _ _
      unfold tk
      rw [hlv0]
      simp only at hs
      omega

end
end Go.Proofs.Ytnodepfoahmcmaa.E

/- The engine, part XM: literals of rows that may be written; clearing rows. Conditions: none. -/
namespace Go.Proofs.Ytnodepfoahmcmaa.E
set_option linter.unusedVariables false
set_option linter.unusedSimpArgs false

section
variable {P : Program} {w : World} {G : Nat → Nat} {φ : Nat → Option Nat} {ρ : Operand → Value} {o : Oper} {xs : List V} {vs : List Value} {heap : Heap} {n : Nat} {q : V × Heap × Nat}

theorem okCell_clr1 {c : V} (h : okCell c = true) : okCell (clr1 c) = true := by cases c <;> first | exact h | rfl
theorem okCell_noH1 {c : V} (h : noH1 c = true) : okCell c = true := by cases c <;> first | rfl | (simp [noH1] at h)

theorem fillH_fillP {sz : Nat} : ∀ (parts : List Nat) (xs : List V) (l l' : List V), (∀ x ∈ l, x.cells.length = sz ∧ x.cells.all okCell = true) → fillH l sz parts xs = some l' → fillP (l.flatMap V.cells) (parts.map fun i => (i * sz, sz)) xs = some (l'.flatMap V.cells) ∧ (∀ x ∈ l', x.cells.length = sz ∧ x.cells.all okCell = true) ∧ l'.length = l.length
  | [], [], l, l', h, hf => by simp only [fillH] at hf; injection hf with hf; subst hf; exact ⟨rfl, h, rfl⟩
  | [], _ :: _, l, l', h, hf => by simp [fillH] at hf
  | _ :: _, [], l, l', h, hf => by simp [fillH] at hf
  | i :: ps, x :: xs, l, l', h, hf => by
    simp only [fillH] at hf
    split at hf <;> first | (cases hf; done) | skip
    rename_i hb
    obtain ⟨b1, b2, hsol, b4⟩ := hb
    have hc2 : (clr2 x).cells.length = sz := by rw [cells_clr2, List.length_map, b1]
    have hset : ∀ z ∈ l.set i (clr2 x), z.cells.length = sz ∧ z.cells.all okCell = true := fun z hz => by
      rcases List.mem_or_eq_of_mem_set hz with hz | rfl
      · exact h z hz
      · refine ⟨hc2, ?_⟩
        rw [cells_clr2, List.all_eq_true]
        intro c hc
        obtain ⟨d, hd, rfl⟩ := List.mem_map.1 hc
        exact okCell_clr1 (List.all_eq_true.1 b4 d hd)
    obtain ⟨r1, r2, r3⟩ := fillH_fillP ps xs (l.set i (clr2 x)) l' hset hf
    have hfl := (flatMap_get l fun y hy => (h y hy).1).1
    have hle : (i + 1) * sz ≤ l.length * sz := Nat.mul_le_mul_right _ b2
    rw [Nat.succ_mul] at hle
    refine ⟨?_, r2, by rw [r3, List.length_set]⟩
    simp only [List.map_cons, fillP]
    rw [if_pos ⟨b1, by omega, hsol⟩, ← cells_clr2, ← flatMap_set l i (clr2 x) (fun y hy => (h y hy).1) b2]
    exact r1

theorem ok_bsliceH {t : TypeId} {len sz : Nat} {zero : List V} {parts : List Nat} {ps : Array (Nat × Operand)} (hop : o.op = .buildSlice t len ps) (k2 : slIs P t sz = true) (k3 : (match P.underlying t with | some (.slice e) => zeroIs P e zero | _ => false) = true) (k4 : ps.toList.map (·.1) = parts)
    (h : HPre w G φ xs ((opArgs o.op).map ρ) heap n) (hq : hf (.bsliceH sz len zero parts) xs heap n = some q) : HDoes P w G φ ρ o xs heap n q := by
  have hv0 : voidB o.op = false := by rw [hop]; rfl
  obtain ⟨e, hu, hsz⟩ := slIs_spec k2
  rw [hu] at k3
  simp only at k3
  unfold zeroIs at k3
  split at k3 <;> first | (cases k3; done) | skip
  rename_i it hit
  split at k3 <;> first | (cases k3; done) | skip
  rename_i z hz
  simp only [hf] at hq
  split at hq <;> first | (cases hq; done) | skip
  rename_i hb
  obtain ⟨b0, b1, b2, b3⟩ := hb
  obtain ⟨l, hf, rfl⟩ := Option.map_eq_some_iff.1 hq
  obtain ⟨c1, c2⟩ := ofCells_cells b2 b3
  have hz0 : PCells (R0 w G φ) zero z.cells := okCL_cells k3
  have hrep := rep_cells (n := len) c1 hz0 b2
  have hzo : zero.all okCell = true := List.all_eq_true.2 fun c hc => okCell_noH1 (List.all_eq_true.1 b3 c hc)
  obtain ⟨f1, f2, f3⟩ := fillH_fillP parts xs (List.replicate len (ofCells sz zero)) l (fun x hx => by rw [(List.mem_replicate.1 hx).2, c1]; exact ⟨b2, hzo⟩) hf
  rw [List.length_replicate] at f3
  have hx : All2 (R w G φ) xs ((ps.toList.map fun p => (p.1, ρ p.2)).map (·.2)) := by
    have h0 := h.ok
    rw [hop] at h0
    simp only [opArgs] at h0
    rw [List.map_map] at h0 ⊢
    exact h0.imp fun a b hh => hh.1
  obtain ⟨cells', h1, h2⟩ := fill_ok (place := fun i => some (i * sz, sz)) (ps.toList.map fun p => (p.1, ρ p.2)) (parts.map fun i => (i * sz, sz)) xs _ _ _ hrep (by
    rw [← k4]; simp [List.map_map, Function.comp_def]) hx f1
  obtain ⟨m1, m2⟩ := flatMap_get (sz := sz) l fun x hx => (f2 x hx).1
  have hsize : cells'.size = len * sz := by rw [h2.1, m1, f3]
  have hrun : (Instr.buildSlice t len (ps.map fun x => match x with | (i, x) => (i, ρ x))).run P w = .ok (.slice (some ⟨w.heap.size, 0, none⟩) len len) (w.alloc (.cells cells' e)) := by
    have hfl : ∀ zr : Array Value, (len * sz = 0 ∨ zr = z.cells) → Instr.fill (fun i => some (i * sz, sz)) ((Array.range (len * sz)).map (zr[· % zr.size]!)) (ps.map fun x => match x with | (i, x) => (i, ρ x)).toList = some cells' := by
      intro zr hzr
      have e1 : (Array.range (len * sz)).map (zr[· % zr.size]!) = (Array.range (len * sz)).map (z.cells[· % z.cells.size]!) := by
        rcases hzr with h0 | rfl
        · rw [h0]; simp
        · rfl
      rw [e1, ← h1]
      congr 1
      simp
    unfold Instr.buildSlice
    simp only [Sem.run_bind, run_underlying hu, Result.andThen_ok, run_szIs hsz, show ¬ (len * sz > 2 ^ 24) by omega, if_false, Sem.run_pure]
    by_cases h0 : len * sz = 0
    · rw [if_pos h0]
      simp only [Sem.run_bind, Sem.run_pure, Result.andThen_ok]
      rw [hfl _ (.inl h0)]
      simp only [Sem.run_bind, run_newRow, Result.andThen_ok, Sem.run_pure]
    · rw [if_neg h0]
      simp only [Sem.run_bind, Sem.run_pure, Result.andThen_ok, run_zeroValue' hit hz]
      rw [hfl _ (.inr rfl)]
      simp only [Sem.run_bind, run_newRow, Result.andThen_ok, Sem.run_pure]
  obtain ⟨φ', hφ'⟩ : ∃ φ' : Nat → Option Nat, φ' = fun b => if b = n then some w.heap.size else φ b := ⟨_, rfl⟩
  have hnew : φ' n = some w.heap.size := by rw [hφ']; simp
  have hblk : (w.alloc (.cells cells' e)).heap[w.heap.size]? = some (.cells cells' e) := heap_alloc_new w _
  have hokc : ∀ i (hi : i < (l.flatMap V.cells).length), okCell (l.flatMap V.cells)[i] = true := fun i hi => by
    obtain ⟨x, hx, hc⟩ := List.mem_flatMap.1 (List.getElem_mem hi)
    exact List.all_eq_true.1 (f2 x hx).2 _ hc
  refine ⟨.slice (some ⟨w.heap.size, 0, none⟩) len len, _, G, φ', ?_, HRes.new h hφ' (fun hext hmono => rows_in hnew (h.zero _ (Nat.le_refl _)) hblk (fun p _ hp => by omega) (by rw [h2.1]; exact Nat.le_refl _) (fun u hu' => ?_) (fun x hx => (f2 x hx).1) (fun p hp => ?_)) (fun p => ?_) ?_ (Tail_plain rfl _)⟩
  · rw [hv0]
    unfold execOp; rw [hop]
    exact exec_vm hrun
  · obtain ⟨p, hp, rfl⟩ := Array.mem_iff_getElem.1 hu'
    have hp2 : p < (l.flatMap V.cells).length := by rw [← h2.1]; exact hp
    have h9 := (h2.2 p hp2).1
    have e9 : cells'.getD p undef = cells'[p] := by simp [Array.getD, hp]
    rw [e9] at h9
    exact oneCell_ok h9 (hokc p hp2)
  · have h9 := h2.2 p hp
    exact ⟨h9.1.mono hext hmono, h9.2.2.mono hext fun _ _ => rfl⟩
  · rw [lv_rows hnew hblk, tk_plain rfl]
    have : sumTk ((l.flatMap V.cells).zip cells'.toList) p = 0 := sumTk_zero fun pr hpr => by
      obtain ⟨j, hj, rfl⟩ := List.mem_iff_getElem.1 hpr
      rw [List.length_zip] at hj
      rw [List.getElem_zip]
      have h9 := (h2.2 j (by omega)).2.1 p
      have hjl : j < cells'.size := by rw [h2.1]; omega
      have e9 : cells'.getD j undef = cells'.toList[j]'(by simpa using hjl) := by simp [Array.getD, hjl]
      rw [e9] at h9
      exact h9
    omega
  · exact .hs _ n sz 0 len len w.heap.size 0 cells' e (0, 0) hnew (Nat.le_refl _) (fun _ => by simp) hblk (by omega) b0

theorem HRes.tup0 {heap' : Heap} {n' : Nat} {u : Value} {w' : World} {G' : Nat → Nat} {φ' : Nat → Option Nat} (H : HRes w G φ xs vs heap n .junk heap' n' u w' G' φ') : HRes w G φ xs vs heap n (.tup []) heap' n' (.tuple #[]) w' G' φ' := by
  have hl : leaves (.tup []) (.tuple #[]) = [] := rfl
  have hk : ∀ b, tk (.tup []) (.tuple #[]) b = 0 := fun b => by unfold tk; rw [hl]; rfl
  exact ⟨.tup _ [] #[] rfl fun i hi => absurd hi (by simp), fun p hp => by (rw [hl] at hp; cases hp), H.reps, H.sorted, fun b => by have := H.cnt b; rw [tk_plain rfl] at this; rw [hk]; exact this, H.ctr, H.le, H.zero, H.ext, H.mono, fun b hb h0 => by
    have := H.fr b hb h0
    rw [tk_plain rfl] at this
    rw [hk]
    exact this⟩

theorem ok_clearH {args : Array Operand} {t e : TypeId} {i : TypeInfo} {sz : Nat} {zero : V} {z : Value} (hop : o.op = .call { callee := .builtin .clear, args, argTypes := #[t] }) (hu : P.underlying t = some (.slice e)) (hi : P.info? e = some i) (hs : i.size = sz) (hsz : 0 < sz) (hz : i.zero = some z) (hze : okCL z.cells.toList zero.cells = true) (hzs : z.cells.size = sz)
    (h : HPre w G φ xs ((opArgs o.op).map ρ) heap n) (hq : hf (.clearH sz zero) xs heap n = some q) : HDoes P w G φ ρ o xs heap n q := by
  have hv0 : voidB o.op = false := by rw [hop]; rfl
  have hs0 := exec_builtin (ρ := ρ) hop
  have hb0 : ∀ ty cs args, builtin .clear #[t] ty cs args = (do pure (.value (← Builtin.clear_ #[t] ty args))) := fun _ _ _ => rfl
  rw [hb0] at hs0
  have h0 := h.ok
  rw [hop] at h0
  simp only [hf] at hq
  split at hq <;> first | (cases hq; done) | skip
  rename_i b z1 off m
  split at hq <;> first | (cases hq; done) | skip
  rename_i hzz
  subst hzz
  split at hq <;> first | (cases hq; done) | skip
  rename_i sz' l hg
  split at hq <;> first | (cases hq; done) | skip
  rename_i hc
  obtain ⟨rfl, hle, d1, d2, d3⟩ := hc
  injection hq with hq; subst hq
  obtain ⟨v1, hv, r1, _⟩ := all2_1 h0
  simp only [opArgs] at hv
  rw [args_1 hv] at hs0
  obtain ⟨k, cells, el, fr, e1, e2, e3, e4, e5, e6, e7, e8⟩ := rows_out (h.reps _ (get_mem hg))
  obtain ⟨f1, f2⟩ := flatMap_get l e7
  have hzc : PCells (R0 w G φ) (clr2 zero).cells z.cells := by
    have h9 : PCells (R0 w G φ) zero.cells z.cells := okCL_cells hze
    rw [cells_clr2]
    refine ⟨by rw [List.length_map]; exact h9.1, fun j hj => ?_⟩
    rw [List.getElem_map]
    exact ⟨(h9.2 j (by simpa using hj)).1.clr1, fun b => tk1_clr1 _ _ _, Tail1_clr1 _ _ _ _⟩
  have hcl : (clr2 zero).cells.length = sz' := by rw [cells_clr2, List.length_map]; exact d1
  have hrep := rep_cells (n := m) rfl hzc hcl
  have hus : (Builtin.zeroCells z.cells m) = (Array.range (m * sz')).map (z.cells[· % z.cells.size]!) := by unfold Builtin.zeroCells; rw [hzs]
  rw [← hus] at hrep
  obtain ⟨us, hus'⟩ : ∃ us, us = (Builtin.zeroCells z.cells m).toList := ⟨_, rfl⟩
  have g1 := (flatMap_get (sz := sz') (List.replicate m (clr2 zero)) fun x hx => by rw [(List.mem_replicate.1 hx).2]; exact hcl).1
  rw [List.length_replicate] at g1
  have hul : us.length = ((List.replicate m (clr2 zero)).flatMap V.cells).length := by rw [hus', Array.length_toList]; exact hrep.1
  have hone : ∀ u ∈ us, u.oneCell' = true := fun u hu' => by
    rw [hus'] at hu'
    obtain ⟨j, hj, rfl⟩ := List.mem_iff_getElem.1 (mem_zeroCells hu')
    have hj' : j < z.cells.size := by simpa using hj
    have hj2 : j < (clr2 zero).cells.length := by rw [← hzc.1]; exact hj'
    have h9 := (hzc.2 j hj2).1
    have e9 : z.cells.getD j undef = z.cells.toList[j] := by simp [Array.getD, hj']
    rw [e9] at h9
    refine oneCell_ok h9 ?_
    obtain ⟨C, hC⟩ : ∃ C, C = (clr2 zero).cells[j] := ⟨_, rfl⟩
    have this : C ∈ (clr2 zero).cells := by rw [hC]; exact List.getElem_mem hj2
    rw [← hC]
    rw [cells_clr2] at this
    obtain ⟨y, hy, hy2⟩ := List.mem_map.1 this
    rw [← hy2]
    exact okCell_clr1 (List.all_eq_true.1 d3 y hy)
  cases r1 with
  | hsNil => omega
  | hs _ _ _ _ _ cap k' oo cs' el' fr' hφ hl ho hb hs' hz' =>
  have hkk : k' = k := by rw [e1] at hφ; injection hφ with hφ; exact hφ.symm
  subst hkk
  have hkey : (off + m) * sz' ≤ l.length * sz' := Nat.mul_le_mul_right _ hle
  rw [Nat.add_mul] at hkey
  have H := rows_store (n := n) (l' := l.take off ++ List.replicate m (clr2 zero) ++ l.drop (off + m)) (K := off * sz') (ys := (List.replicate m (clr2 zero)).flatMap V.cells) (us := us) (r := .junk) (u := undef) h hg e1 e2 e3 e4 e5 e6 e8 hul (fun j hj => by
      have h9 := hrep.2 j hj
      have hj' : j < (Builtin.zeroCells z.cells m).size := by rw [hrep.1]; exact hj
      have e9 : (Builtin.zeroCells z.cells m).getD j undef = us.getD j undef := by
        rw [hus', List.getD_eq_getElem?_getD, Array.getElem?_toList]
        simp [Array.getD, hj']
      rw [e9] at h9
      exact ⟨h9.1, h9.2.2⟩) hone (by rw [g1, f1]; omega) (by
      have t1 : (l.take off).flatMap V.cells = (l.flatMap V.cells).take (off * sz') := by
        have a1 := (flatMap_get (l.take off) fun x hx => e7 x (List.mem_of_mem_take hx)).1
        rw [List.length_take, Nat.min_eq_left (by omega)] at a1
        have a2 : (l.take off).flatMap V.cells ++ (l.drop off).flatMap V.cells = l.flatMap V.cells := by rw [← List.flatMap_append, List.take_append_drop]
        rw [← a2, ← a1, List.take_left']
        rfl
      have t2 : (l.drop (off + m)).flatMap V.cells = (l.flatMap V.cells).drop (off * sz' + m * sz') := by
        have a1 := (flatMap_get (l.take (off + m)) fun x hx => e7 x (List.mem_of_mem_take hx)).1
        rw [List.length_take, Nat.min_eq_left (by omega), Nat.add_mul] at a1
        have a2 : (l.take (off + m)).flatMap V.cells ++ (l.drop (off + m)).flatMap V.cells = l.flatMap V.cells := by rw [← List.flatMap_append, List.take_append_drop]
        rw [← a2, ← a1, List.drop_left']
        rfl
      rw [List.flatMap_append, List.flatMap_append, t1, t2, g1]) (fun x hx => by
      rcases List.mem_append.1 hx with hx | hx
      · rcases List.mem_append.1 hx with hx | hx
        · exact e7 x (List.mem_of_mem_take hx)
        · rw [(List.mem_replicate.1 hx).2]; exact hcl
      · exact e7 x (List.mem_of_mem_drop hx)) (fun p => by
      rw [sumTk_zero]
      · exact Nat.zero_le _
      · intro pr hpr
        obtain ⟨a, c⟩ := pr
        obtain ⟨x, hx, hc⟩ := List.mem_flatMap.1 (List.of_mem_zip hpr).1
        rw [(List.mem_replicate.1 hx).2, cells_clr2] at hc
        obtain ⟨y, _, rfl⟩ := List.mem_map.1 hc
        exact tk1_clr1 _ _ _) (fun w' => .junk _ _) (by rfl)
  refine ⟨_, _, _, _, ?_, H.tup0⟩
  rw [hv0, hs0]
  refine exec_vm ?_
  by_cases hm : m = 0
  · subst hm
    have hu0 : us = [] := List.eq_nil_of_length_eq_zero (by rw [hul, g1]; simp)
    rw [hu0]
    simp [Builtin.clear_, run_underlying hu, Result.andThen, World.setCells]
  · have hoo : oo = off * sz' := ho (by omega)
    subst hoo
    have hlen : us.length = m * sz' := by rw [hul, g1]
    have hst := run_storeCells_cells (P := P) k' (off * sz') us 0 w (fun j hj => by
      rw [cell_of_row w _ _ cells el fr e3, Array.getElem?_eq_getElem (by omega)]; rfl) (fun j hj => by
      have := e4 (off * sz' + 0 + j) (by omega)
      simp only [World.frozen?, e3]
      simpa using this) hone
    rw [Nat.add_zero, hus'] at hst
    obtain ⟨m', rfl⟩ : ∃ m', m = m' + 1 := ⟨m - 1, by omega⟩
    rw [hus']
    simp [Builtin.clear_, run_underlying hu, run_zeroValue' hi hz, Result.andThen, hst]

/-- A row of one element that keeps its rights. -/
theorem ok_bsliceM {t : TypeId} {sz len : Nat} {ps : Array (Nat × Operand)} (hop : o.op = .buildSlice t len ps) (hl1 : len = 1) (k2 : slIs P t sz = true)
    (k3 : (match P.underlying t with | some (.slice e) => (match P.info? e with | some i => (match i.zero with | some z => z.cells.size == sz | none => false) | none => false) | _ => false) = true) (k4 : ps.toList.map (·.1) = [0])
    (h : HPre w G φ xs ((opArgs o.op).map ρ) heap n) (hq : hf (.bsliceM sz) xs heap n = some q) : HDoes P w G φ ρ o xs heap n q := by
  subst hl1
  have hv0 : voidB o.op = false := by rw [hop]; rfl
  obtain ⟨e, hu, hsz⟩ := slIs_spec k2
  rw [hu] at k3
  simp only at k3
  split at k3 <;> first | (cases k3; done) | skip
  rename_i it hit
  split at k3 <;> first | (cases k3; done) | skip
  rename_i z hz
  have hzs : z.cells.size = sz := by simpa using k3
  simp only [hf] at hq
  split at hq <;> first | (cases hq; done) | skip
  rename_i x
  split at hq <;> first | (cases hq; done) | skip
  rename_i hb
  obtain ⟨_, b1, b2, b0, b3, b4⟩ := hb
  injection hq with hq; subst hq
  obtain ⟨p0, hps⟩ : ∃ p0, ps.toList = [(0, p0)] := by
    cases hl : ps.toList with
    | nil => rw [hl] at k4; cases k4
    | cons a r =>
      rw [hl] at k4
      cases r with
      | nil => obtain ⟨a1, a2⟩ := a; simp at k4; subst k4; exact ⟨a2, rfl⟩
      | cons _ _ => simp at k4
  have h0 := h.ok
  rw [hop] at h0
  simp only [opArgs, hps, List.map_cons, List.map_nil] at h0
  obtain ⟨v, hv, hr, ht⟩ := all2_1 h0
  have hv' : ρ p0 = v := by simpa using hv
  have hzp : PCells (fun x v => R w G φ x v ∧ (True → Tail1 w G x v)) (List.replicate sz .junk) ((Array.range (1 * sz)).map (z.cells[· % z.cells.size]!)) := by
    refine ⟨by simp, fun i hi => ⟨?_, fun _ => ?_⟩⟩
    · rw [List.getElem_replicate]; exact .junk _ _
    · rw [List.getElem_replicate]; exact trivial
  obtain ⟨cells', f1, f2, f3⟩ := fill_okM (place := fun i => some (i * sz, sz)) [(0, v)] [(0, sz)] [x] (List.replicate sz .junk) x.cells _ hzp (by simp) (.cons ⟨hr, fun _ => ht⟩ .nil) (by
    simp only [fillPM, List.length_replicate, Nat.zero_add]
    rw [if_pos ⟨b1, Nat.le_refl _, b3⟩]
    simp)
  have hsize : cells'.size = sz := by rw [f2.1, b1]
  have hrun : (Instr.buildSlice t 1 (ps.map fun x => match x with | (i, x) => (i, ρ x))).run P w = .ok (.slice (some ⟨w.heap.size, 0, none⟩) 1 1) (w.alloc (.cells cells' e)) := by
    have hpsl : (ps.map fun x => match x with | (i, x) => (i, ρ x)).toList = [(0, v)] := by
      rw [Array.toList_map, hps, ← hv']
      rfl
    unfold Instr.buildSlice
    simp only [Sem.run_bind, run_underlying hu, Result.andThen_ok, run_szIs hsz, show ¬ (1 * sz > 2 ^ 24) by omega, if_false, Sem.run_pure]
    rw [if_neg (by omega)]
    simp only [Sem.run_bind, Sem.run_pure, Result.andThen_ok, run_zeroValue' hit hz]
    rw [hpsl, f1]
    simp only [Sem.run_bind, run_newRow, Result.andThen_ok, Sem.run_pure]
  obtain ⟨φ', hφ'⟩ : ∃ φ' : Nat → Option Nat, φ' = fun b => if b = n then some w.heap.size else φ b := ⟨_, rfl⟩
  have hnew : φ' n = some w.heap.size := by rw [hφ']; simp
  have hblk : (w.alloc (.cells cells' e)).heap[w.heap.size]? = some (.cells cells' e) := heap_alloc_new w _
  have hfl : [x].flatMap V.cells = x.cells := by simp
  refine ⟨.slice (some ⟨w.heap.size, 0, none⟩) 1 1, _, G, φ', ?_, HRes.new h hφ' (fun hext hmono => rows_in hnew (h.zero _ (Nat.le_refl _)) hblk (fun p _ hp => by omega) (by rw [hfl, hsize]; omega) (fun u hu' => ?_) (fun y hy => by rw [List.mem_singleton] at hy; subst hy; exact b1) (fun p hp => ?_)) (fun p => ?_) ?_ (Tail_plain rfl _)⟩
  · rw [hv0]
    unfold execOp; rw [hop]
    exact exec_vm hrun
  · obtain ⟨p, hp, rfl⟩ := Array.mem_iff_getElem.1 hu'
    have hp2 : p < x.cells.length := by omega
    have h9 := (f2.2 p hp2).1
    have e9 : cells'.getD p undef = cells'[p] := by simp [Array.getD, hp]
    rw [e9] at h9
    exact oneCell_ok h9 (List.all_eq_true.1 b4 _ (List.getElem_mem hp2))
  · simp only [hfl] at hp ⊢
    have h9 := f2.2 p hp
    exact ⟨h9.1.mono hext hmono, (h9.2 trivial).mono hext fun _ _ => rfl⟩
  · rw [lv_rows hnew hblk, tk_plain rfl, hfl]
    have h9 := f3 p
    have hj : sumTk ((List.replicate sz V.junk).zip ((Array.range (1 * sz)).map (z.cells[· % z.cells.size]!)).toList) p = 0 := sumTk_zero fun pr hpr => by
      obtain ⟨a, c⟩ := pr
      have := (List.of_mem_zip hpr).1
      rw [(List.mem_replicate.1 this).2]
      rfl
    have hvt : vtk [x] ([(0, v)].map (·.2)) p = vtk [x] ((opArgs o.op).map ρ) p := by
      rw [hop]
      simp only [opArgs, hps, List.map_cons, List.map_nil, hv']
    rw [hj, hvt] at h9
    omega
  · exact .hs _ n sz 0 1 1 w.heap.size 0 cells' e (0, 0) hnew (Nat.le_refl _) (fun _ => by simp) hblk (by omega) b2

/-- All that stands in rows that may be written, with its rights. -/
theorem hs_all {b z : Nat} {l : List V} {v : Value} (h : HPre w G φ xs vs heap n) (hr : R w G φ (.hs b z 0 l.length) v) (hg : get heap b = some (.rows z l)) (hz : z ≠ 0) (hm : l.length ≠ 0) :
    ∃ blk cap, v = .slice (some ⟨blk, 0, none⟩) l.length cap ∧ ∃ news : List Value, news.length = l.length * z ∧ (∀ u ∈ news, u.oneCell' = true) ∧ (∀ j u, news[j]? = some u → w.cell? ((⟨blk, 0, none⟩ : Addr).add j) = some u) ∧
      (l.flatMap V.cells).length = news.length ∧ (∀ x ∈ l, x.cells.length = z) ∧ (∀ p (h : p < (l.flatMap V.cells).length), R w G φ (l.flatMap V.cells)[p] (news.getD p undef) ∧ Tail1 w G (l.flatMap V.cells)[p] (news.getD p undef)) ∧ ∀ q, sumTk ((l.flatMap V.cells).zip news) q ≤ lv w φ q (b, .rows z l) := by
  obtain ⟨k, cells, el, fr, e1, e2, e3, e4, e5, e6, e7, e8⟩ := rows_out (h.reps _ (get_mem hg))
  obtain ⟨f1, f2⟩ := flatMap_get l e7
  obtain ⟨ll, hll⟩ : ∃ ll, ll = l.length := ⟨_, rfl⟩
  rw [← hll] at hr
  cases hr with
  | hsNil => exact absurd rfl hz
  | hs _ _ _ _ _ cap k' oo cs' el' fr' hφ hl ho hb hs' hz' =>
    have hkk : k' = k := by rw [e1] at hφ; injection hφ with hφ; exact hφ.symm
    subst hkk
    have hoo : oo = 0 := by have := ho (by omega); omega
    subst hoo
    obtain ⟨news, hnews⟩ : ∃ news, news = cells.toList.take (l.length * z) := ⟨_, rfl⟩
    have hnl : news.length = l.length * z := by
      have hcl : cells.toList.length = cells.size := Array.length_toList
      rw [hnews, List.length_take]; omega
    have hat : ∀ p, p < l.length * z → news[p]? = cells[p]? := fun p hp => by
      rw [hnews, List.getElem?_take_of_lt hp, Array.getElem?_toList]
    have hgd : ∀ p, p < l.length * z → news.getD p undef = cells.getD p undef := fun p hp => by
      have h9 : p < cells.size := by omega
      rw [List.getD_eq_getElem?_getD, hat p hp]
      simp [Array.getD, h9]
    refine ⟨k', cap, by rw [hll], news, hnl, fun u hu => ?_, fun j u hu => ?_, by rw [f1, hnl], e7, fun p hp => ?_, fun q => ?_⟩
    · rw [hnews] at hu
      exact e6 u (by simpa using List.mem_of_mem_take hu)
    · have hj : j < l.length * z := by rw [← hnl]; exact (List.getElem?_eq_some_iff.1 hu).1
      rw [hat j hj] at hu
      rw [add_none, cell_of_row w _ _ cells el fr e3, Nat.zero_add]
      exact hu
    · rw [hgd p (by rw [← f1]; exact hp)]
      exact e8 p hp
    · rw [lv_rows e1 e3]
      have hcut : cells.toList = news ++ cells.toList.drop (l.length * z) := by rw [hnews, List.take_append_drop]
      rw [hcut, zip_left (by rw [f1, hnl])]
      omega
theorem ok_appM {args : Array Operand} {t t2 : TypeId} {sz bytes : Nat} (hop : o.op = .call { callee := .builtin .append, args, argTypes := #[t, t2] }) (hel : elemIs P t sz bytes = true) (hsl : isSl P t2 = true) (hzo : zeroOne P t = true) (h : HPre w G φ xs ((opArgs o.op).map ρ) heap n) (hq : hf (.appM sz bytes) xs heap n = some q) : HDoes P w G φ ρ o xs heap n q := by
  have hv0 : voidB o.op = false := by rw [hop]; rfl
  obtain ⟨e, i, z, hu, hi, rfl, rfl, hsz, hz, hzs⟩ := elemIs_spec hel
  have hz1 := zeroOne_spec hzo hu hi hz
  have hu2 : ∃ e', P.underlying t2 = some (.slice e') := by
    unfold isSl at hsl
    split at hsl
    · exact ⟨_, by assumption⟩
    · cases hsl
  obtain ⟨e', hu2⟩ := hu2
  have hs0 := exec_builtin (ρ := ρ) hop
  have hb0 : ∀ ty cs args, builtin .append #[t, t2] ty cs args = (do pure (.value (← Builtin.append_ #[t, t2] ty args))) := fun _ _ _ => rfl
  rw [hb0] at hs0
  have h0 := h.ok
  rw [hop] at h0
  simp only [hf] at hq
  split at hq <;> first | (cases hq; done) | skip
  rename_i b z1 off m b2 z2' off2 m2
  split at hq <;> first | (cases hq; done) | skip
  rename_i sz2 l2 hg2
  split at hq <;> first | (cases hq; done) | skip
  rename_i hc
  obtain ⟨rfl, rfl, rfl, rfl, hpos, hne⟩ := hc
  obtain ⟨v1, v2, hv, ⟨r1, t1⟩, ⟨r2, t2'⟩⟩ := all2_2 h0
  have hva : (opArgs o.op).map ρ = [v1, v2] := by rw [hop]; exact hv
  simp only [opArgs] at hv
  rw [args_2 hv] at hs0
  obtain ⟨blk, cap, rfl, news, hnl, hone, hcell, n1, n2, n3, n4⟩ := hs_all h r2 hg2 (by omega) (by omega)
  have hsrc : Src P i.size t2 (.slice (some ⟨blk, 0, none⟩) l2.length cap) l2.length news w := Src.ofSlice w hu2 _ _ _ news hnl hcell hone
  have hs3 : Sorted (del heap b2) := h.sorted.sublist (del_sublist _ _)
  have hin : ∀ p ∈ del heap b2, p ∈ heap := fun p hp => (del_sublist heap b2).subset hp
  have hsum : ∀ q, cntH w φ (del heap b2) q + lv w φ q (b2, .rows i.size l2) = cntH w φ heap q := fun q => sum_del (lv w φ q) hg2
  have htk : ∀ q, tk (.agg (l2.flatMap V.cells)) (.agg news.toArray) q = sumTk ((l2.flatMap V.cells).zip news) q := fun q => by
    unfold tk
    rw [leaves_of_not_tup (by intro vs h; cases h)]
    rfl
  have hvt : ∀ q, vtk [.hs b z1 off m, .hs b2 i.size 0 l2.length, .agg (l2.flatMap V.cells)] [v1, .slice (some ⟨blk, 0, none⟩) l2.length cap, .agg news.toArray] q = vtk [.hs b z1 off m, .hs b2 i.size 0 l2.length] [v1, .slice (some ⟨blk, 0, none⟩) l2.length cap] q + sumTk ((l2.flatMap V.cells).zip news) q := fun q => by
    rw [← htk q]
    simp [vtk]
    omega
  have h' : HPre w G φ [.hs b z1 off m, .hs b2 i.size 0 l2.length, .agg (l2.flatMap V.cells)] [v1, .slice (some ⟨blk, 0, none⟩) l2.length cap, .agg news.toArray] (del heap b2) n := by
    refine ⟨.cons ⟨r1, t1⟩ (.cons ⟨r2, t2'⟩ (.cons ⟨.agg _ _ _ (by simp [n1]) fun j hj => ?_, fun p hp => ?_⟩ .nil)), fun p hp => h.reps p (hin p hp), hs3, fun q => ?_, h.ctr, h.zero⟩
    · have := (n3 j hj).1
      have e9 : news.toArray.getD j undef = news.getD j undef := by
        have hj' : j < news.length := by omega
        rw [List.getD_eq_getElem?_getD, List.getElem?_eq_getElem hj']
        simp [Array.getD, hj']
      rw [e9]
      exact this
    · rw [leaves_of_not_tup (by intro vs h; cases h)] at hp
      obtain ⟨j, hj, rfl⟩ := List.mem_iff_getElem.1 hp
      rw [List.length_zip] at hj
      simp only [V.cells, Value.cells] at hj
      rw [List.getElem_zip]
      have hj2 : j < news.length := by omega
      have := (n3 j (by omega)).2
      rw [List.getD_eq_getElem?_getD, List.getElem?_eq_getElem hj2] at this
      exact this
    · rw [hvt]
      have h1 := h.cnt q
      rw [hva] at h1
      have h2 := hsum q
      have h3 := n4 q
      omega
  obtain ⟨v, w', G', φ', hrun, H⟩ := app_hs (ty := o.type) hu hi hsz hz hzs hz1 h' r1 hsrc hnl hone n1 n2 n3 (fun q => by rw [hvt]; omega) hq
  refine ⟨v, w', G', φ', by rw [hv0, hs0]; exact exec_vm hrun, ?_⟩
  rw [hva]
  exact { H with fr := fun c hc h0 => H.fr c hc (by
    rw [hvt]
    have h2 := hsum c
    have h3 := n4 c
    omega) }

end
end Go.Proofs.Ytnodepfoahmcmaa.E

/- The engine, part XN: a cell is read with its right. Conditions: none. -/
namespace Go.Proofs.Ytnodepfoahmcmaa.E
set_option linter.unusedVariables false
set_option linter.unusedSimpArgs false

section
variable {P : Program} {w : World} {G : Nat → Nat} {φ : Nat → Option Nat} {ρ : Operand → Value} {o : Oper} {xs : List V} {vs : List Value} {heap : Heap} {n : Nat} {q : V × Heap × Nat}

theorem ok_takeH {t : TypeId} {x : Operand} (hop : o.op = .load t x) (hag : aggIs P t none = true) (h : HPre w G φ xs ((opArgs o.op).map ρ) heap n) (hq : hf .takeH xs heap n = some q) : HDoes P w G φ ρ o xs heap n q := by
  simp only [hf] at hq
  split at hq <;> first | (cases hq; done) | skip
  rename_i b sz i off
  split at hq <;> first | (cases hq; done) | skip
  rename_i sz' l hg
  split at hq <;> first | (cases hq; done) | skip
  rename_i hsz
  subst hsz
  obtain ⟨row, hi, hq⟩ := Option.bind_eq_some_iff.1 hq
  obtain ⟨c, hc, hq⟩ := Option.bind_eq_some_iff.1 hq
  split at hq <;> first | (cases hq; done) | skip
  rename_i hok
  injection hq with hq; subst hq
  have h0 := h
  rw [hop] at h0
  obtain ⟨v, hv, hr, _⟩ := all2_1 h0.ok
  simp only [opArgs, List.map_cons, List.map_nil, List.cons.injEq, and_true] at hv
  obtain ⟨k, cells, el, fr, e1, e2, e3, e4, e5, e6, e7, e8⟩ := rows_out (h.reps _ (get_mem hg))
  cases hr with | ptr _ _ _ _ _ m' hm =>
  rw [e1] at hm; injection hm with hm; subst hm
  obtain ⟨r1, r2, r3⟩ := row_cut e7 hi
  obtain ⟨hoff, hce⟩ := List.getElem?_eq_some_iff.1 hc
  have hilt : i < l.length := (List.getElem?_eq_some_iff.1 hi).1
  have hp : part row.cells off none = some c := hc
  have hpF := part_row r3 hp
  rw [List.length_take, Nat.min_eq_left (by omega)] at hpF
  obtain ⟨u, hrun, hru, hue⟩ := run_loadBlk (P := P) hag e3 e5 (fun i hi => (e8 i hi).1) hpF
  have hue := hue rfl
  have hKlt : i * sz + off < (l.flatMap V.cells).length := by omega
  have hFK : (l.flatMap V.cells)[i * sz + off] = c := by
    have : (l.flatMap V.cells)[i * sz + off]? = some c := hpF
    exact (List.getElem?_eq_some_iff.1 this).2
  have e8K := e8 _ hKlt
  rw [hFK, ← hue] at e8K
  have hcc := okCell_cells hok
  have hrow : ∀ c ∈ row.cells, c.cells = [c] := fun c hc => by
    obtain ⟨j, hj, rfl⟩ := List.mem_iff_getElem.1 hc
    have hlt : i * sz + j < (l.flatMap V.cells).length := by omega
    have hF : (l.flatMap V.cells)[i * sz + j] = row.cells[j] := by
      obtain ⟨_, hr⟩ := List.getElem?_eq_some_iff.1 hi
      subst hr
      exact (flatMap_get l e7).2 i j hilt hj hlt
    have h1 := (e8 _ hlt).1
    rw [hF] at h1
    have h2 : (cells.getD (i * sz + j) undef).oneCell' = true := e6 _ (by
      have : i * sz + j < cells.size := by omega
      simp [Array.getD, this])
    generalize cells.getD (i * sz + j) undef = u at h1 h2
    generalize row.cells[j] = c at h1
    cases h1 <;> first | rfl | (simp [Value.oneCell'] at h2)
  have hnew : (reRow row (row.cells.take off ++ [clr1 c] ++ row.cells.drop (off + 1))).cells = row.cells.take off ++ [clr1 c] ++ row.cells.drop (off + 1) := reRow_cells fun d hd => by
    rcases List.mem_append.1 hd with hd | hd
    · rcases List.mem_append.1 hd with hd | hd
      · exact hrow d (List.mem_of_mem_take hd)
      · rw [List.mem_singleton.1 hd]; exact okCell_cells (okCell_clr1 hok)
    · exact hrow d (List.mem_of_mem_drop hd)
  have hset := flatMap_set l i (reRow row (row.cells.take off ++ [clr1 c] ++ row.cells.drop (off + 1))) e7 hilt
  rw [hnew] at hset
  have hl : (l.set i (reRow row (row.cells.take off ++ [clr1 c] ++ row.cells.drop (off + 1)))).flatMap V.cells = (l.flatMap V.cells).take (i * sz + off) ++ [clr1 c] ++ (l.flatMap V.cells).drop (i * sz + off + 1) := by
    rw [hset]
    generalize hF : l.flatMap V.cells = F at r3 r2
    have hA : (F.take (i * sz)).length = i * sz := by rw [List.length_take]; omega
    have t1 : F.take (i * sz + off) = F.take (i * sz) ++ row.cells.take off := by
      conv => lhs; rw [r3]
      rw [List.append_assoc, List.take_append, List.take_of_length_le (by omega), hA, Nat.add_sub_cancel_left, List.take_append_of_le_length (by omega)]
    have t2 : F.drop (i * sz + off + 1) = row.cells.drop (off + 1) ++ F.drop (i * sz + sz) := by
      conv => lhs; rw [r3]
      rw [List.append_assoc, List.drop_append, List.drop_eq_nil_of_le (by omega), hA, List.nil_append, List.drop_append_of_le_length (by omega)]
      congr 2
      omega
    rw [t1, t2]
    simp only [List.append_assoc]
  generalize hL : l.set i (reRow row (row.cells.take off ++ [clr1 c] ++ row.cells.drop (off + 1))) = L at hl
  have hLs : ∀ x ∈ L, x.cells.length = sz := fun x hx => by
    rw [← hL] at hx
    rcases List.mem_or_eq_of_mem_set hx with hx | rfl
    · exact e7 x hx
    · rw [hnew]; simp only [List.length_append, List.length_take, List.length_drop, List.length_singleton]; omega
  have hlen : (L.flatMap V.cells).length = (l.flatMap V.cells).length := by rw [hl]; simp only [List.length_append, List.length_take, List.length_drop, List.length_singleton]; omega
  have hleaf : leaves c u = [(c, u)] := by
    have hnt : ∀ vs, c ≠ .tup vs := by rintro vs rfl; simp [okCell] at hok
    rw [leaves_of_not_tup hnt, hcc]
    have hone : u.oneCell' = true := by rw [hue]; exact e6 _ (by
      have : i * sz + off < cells.size := by omega
      simp [Array.getD, this])
    have : u.cells = #[u] := by cases u <;> first | rfl | (simp [Value.oneCell'] at hone)
    rw [this]; rfl
  refine ⟨u, w, G, φ, ?_, HRes.upd (blk' := .rows sz L) h hg e1 e2 (fun _ _ => rfl) rfl (fun cs _ _ hc => ⟨cs, hc, rfl⟩) rfl rfl rfl (fun _ => rows_in e1 e2 e3 e4 (by rw [hlen]; exact e5) e6 hLs (fun p hp => ?_)) (fun p => ?_) e8K.1 (fun p hp => ?_)⟩
  · have : voidB o.op = false := by rw [hop]; rfl
    rw [this]
    unfold execOp; rw [hop]
    refine exec_v ?_
    rw [hv]
    simp [Instr.loadAt, Instr.sureAddr, hrun]
  · have hpl : p < (l.flatMap V.cells).length := by omega
    simp only [hl]
    by_cases c1 : p < i * sz + off
    · rw [List.getElem_append_left (by simp only [List.length_append, List.length_take, List.length_singleton]; omega), List.getElem_append_left (by simp only [List.length_append, List.length_take, List.length_singleton]; omega), List.getElem_take]
      exact e8 p hpl
    · by_cases c2 : p = i * sz + off
      · subst c2
        rw [List.getElem_append_left (by simp only [List.length_append, List.length_take, List.length_singleton]; omega), List.getElem_append_right (by simp only [List.length_append, List.length_take, List.length_singleton]; omega)]
        simp only [List.getElem_singleton]
        rw [← hue]
        exact ⟨e8K.1.clr1, Tail1_clr1 _ _ _ _⟩
      · rw [List.getElem_append_right (by simp only [List.length_append, List.length_take, List.length_singleton]; omega), List.getElem_drop]
        have hidx : i * sz + off + 1 + (p - (List.take (i * sz + off) (List.flatMap V.cells l) ++ [clr1 c]).length) = p := by simp only [List.length_append, List.length_take, List.length_singleton]; omega
        have := e8 p hpl
        simp only [hidx]
        exact this
  · rw [lv_rows e1 e3, lv_rows e1 e3, hl]
    have htk : tk c u p = tk1 c u p := by unfold tk; rw [hleaf]; simp [sumTk]
    rw [htk]
    generalize hF : l.flatMap V.cells = F at *
    generalize hK : i * sz + off = K at *
    have hcl : F.length ≤ cells.toList.length := by simpa using e5
    have s1 : F = F.take K ++ [c] ++ F.drop (K + 1) := by
      rw [← hFK]
      rw [List.append_assoc, List.singleton_append, ← List.drop_eq_getElem_cons hKlt, List.take_append_drop]
    have hut : cells.toList[K]'(by omega) = u := by
      rw [hue]
      have : K < cells.size := by omega
      simp [Array.getD, this]
    have s2 : cells.toList = cells.toList.take K ++ [u] ++ cells.toList.drop (K + 1) := by
      conv => rhs; rw [← hut]
      rw [List.append_assoc, List.singleton_append, ← List.drop_eq_getElem_cons (by omega), List.take_append_drop]
    have hzip : ∀ d : V, sumTk ((F.take K ++ [d] ++ F.drop (K + 1)).zip cells.toList) p = sumTk ((F.take K).zip (cells.toList.take K)) p + (tk1 d u p + sumTk ((F.drop (K + 1)).zip (cells.toList.drop (K + 1))) p) := fun d => by
      conv => lhs; rw [s2]
      rw [List.append_assoc, List.append_assoc, List.zip_append (by simp; omega), sumTk_append, List.singleton_append, List.singleton_append, List.zip_cons_cons, sumTk_cons]
    have a1 := hzip c
    rw [← s1] at a1
    have a2 := hzip (clr1 c)
    rw [tk1_clr1] at a2
    omega
  · rw [hleaf, List.mem_singleton] at hp
    subst hp
    exact e8K.2

end
end Go.Proofs.Ytnodepfoahmcmaa.E

/- The engine, part XZ: all operations on blocks. Conditions: none. -/
namespace Go.Proofs.Ytnodepfoahmcmaa.E
set_option linter.unusedVariables false
set_option linter.unusedSimpArgs false

section
variable {P : Program} {w : World} {G : Nat → Nat} {φ : Nat → Option Nat} {ρ : Operand → Value} {o : Oper} {xs : List V} {heap : Heap} {n : Nat} {q : V × Heap × Nat}

theorem hf_ok {f : HK} (hk : okHK P o.op f = true) (h : HPre w G φ xs ((opArgs o.op).map ρ) heap n) (hq : hf f xs heap n = some q) : HDoes P w G φ ρ o xs heap n q := by
  cases f <;> cases hop : o.op <;> rw [hop] at hk <;> first | (cases hk; done) | skip
  case boxH.box => exact ok_boxH hop h hq
  case allocH.alloc => exact ok_allocH hop hk h hq
  case allocB.alloc => exact ok_allocB hop hk h hq
  case loadH.load => exact ok_loadH hop hk h hq
  case takeH.load => exact ok_takeH hop hk h hq
  case storeH.store => exact ok_storeH hop hk h hq
  case mkMap.makeMap t r =>
    cases r with
    | none => exact ok_mkMap hop h hq
    | some x => cases hk
  case look.lookup zero ok ag ks t m k ok' =>
    simp only [okHK, Bool.and_eq_true, beq_iff_eq, Bool.not_eq_true'] at hk
    obtain ⟨⟨rfl, rfl⟩, hk⟩ := hk
    split at hk <;> first | (cases hk; done) | skip
    rename_i kt et hm
    rw [Bool.and_eq_true] at hk
    exact ok_look hop hm hk.1 hk.2 h hq
  case mkH.makeSlice =>
    simp only [okHK, Bool.and_eq_true] at hk
    exact ok_mkH hop hk.1 hk.2 h hq
  case frz.move => exact ok_frz (.inl hop) h hq
  case frz.assign => exact ok_frz (.inr hop) h hq
  case bsliceM.buildSlice sz t m ps =>
    simp only [okHK, Bool.and_eq_true, beq_iff_eq] at hk
    obtain ⟨⟨⟨k1, k2⟩, k3⟩, k4⟩ := hk
    exact ok_bsliceM hop k1 k2 k3 k4 h hq
  case bsliceH.buildSlice sz len zero parts t m ps =>
    simp only [okHK, Bool.and_eq_true, beq_iff_eq] at hk
    obtain ⟨⟨⟨rfl, k2⟩, k3⟩, k4⟩ := hk
    exact ok_bsliceH hop k2 k3 k4 h hq
  case lookT.lookup zero ag ks t m k ok' =>
    simp only [okHK, Bool.and_eq_true, Bool.not_eq_true'] at hk
    obtain ⟨⟨rfl, rfl⟩, hk⟩ := hk
    split at hk <;> first | (cases hk; done) | skip
    rename_i kt et hm
    rw [Bool.and_eq_true] at hk
    exact ok_lookT hop hm hk.1 hk.2 h hq
  case appH.call c =>
    obtain ⟨ce, args, ats⟩ := c
    simp only [okHK] at hk
    split at hk <;> first | (cases hk; done) | skip
    rename_i t t2 hat
    have hat' : ats = #[t, t2] := Array.toList_inj.1 hat
    subst hat'
    simp only [Bool.and_eq_true] at hk
    exact ok_appH hop hk.1.1 hk.1.2 hk.2 h hq
  case appM.call c =>
    obtain ⟨ce, args, ats⟩ := c
    simp only [okHK] at hk
    split at hk <;> first | (cases hk; done) | skip
    rename_i t t2 hat
    have hat' : ats = #[t, t2] := Array.toList_inj.1 hat
    subst hat'
    simp only [Bool.and_eq_true] at hk
    exact ok_appM hop hk.1.1 hk.1.2 hk.2 h hq
  case clearH.call c =>
    obtain ⟨ce, args, ats⟩ := c
    simp only [okHK] at hk
    split at hk <;> first | (cases hk; done) | skip
    rename_i t hat
    have hat' : ats = #[t] := Array.toList_inj.1 hat
    subst hat'
    split at hk <;> first | (cases hk; done) | skip
    rename_i e hu
    split at hk <;> first | (cases hk; done) | skip
    rename_i i hi
    simp only [Bool.and_eq_true, beq_iff_eq, decide_eq_true_iff] at hk
    obtain ⟨⟨k1, k2⟩, hk⟩ := hk
    split at hk <;> first | (cases hk; done) | skip
    rename_i z hz
    simp only [Bool.and_eq_true, beq_iff_eq] at hk
    exact ok_clearH hop hu hi k1 k2 hz hk.1 hk.2 h hq
  case lenM.call c =>
    obtain ⟨ce, args, ats⟩ := c
    simp only [okHK] at hk
    split at hk <;> first | (cases hk; done) | skip
    rename_i t hat
    have hat' : ats = #[t] := Array.toList_inj.1 hat
    subst hat'
    split at hk <;> first | (cases hk; done) | skip
    rename_i kt et hm
    exact ok_lenM hop hm h hq
  case upd.mapUpdate ag ks t m k v =>
    simp only [okHK, Bool.and_eq_true, Bool.not_eq_true'] at hk
    obtain ⟨rfl, hk⟩ := hk
    split at hk <;> first | (cases hk; done) | skip
    rename_i kt et hm
    exact ok_upd hop hm hk h hq

theorem HRes.junk {vs : List Value} {heap' : Heap} {n' : Nat} {u : Value} {w' : World} {G' : Nat → Nat} {φ' : Nat → Option Nat} (H : HRes w G φ xs vs heap n .junk heap' n' u w' G' φ') : HRes w G φ xs vs heap n .junk heap' n' undef w' G' φ' :=
  ⟨.junk _ _, Tail_plain rfl _, H.reps, H.sorted, fun b => by have := H.cnt b; rw [tk_plain rfl] at this ⊢; exact this, H.ctr, H.le, H.zero, H.ext, H.mono, fun b hb h0 => by
    have := H.fr b hb h0
    rw [tk_plain rfl] at this ⊢
    exact this⟩
theorem void_junk {f : HK} (hk : okHK P o.op f = true) (hv : voidB o.op = true) (hq : hf f xs heap n = some q) : q.1 = .junk := by
  cases f <;> cases hop : o.op <;> rw [hop] at hk hv <;> first | (cases hk; done) | (cases hv; done) | skip
  case storeH.store =>
    simp only [hf] at hq
    split at hq <;> first | (cases hq; done) | skip
    split at hq <;> first | (cases hq; done) | skip
    split at hq <;> first | (cases hq; done) | skip
    obtain ⟨_, _, rfl⟩ := Option.map_eq_some_iff.1 hq
    rfl
  case upd.mapUpdate =>
    simp only [hf] at hq
    split at hq <;> first | (cases hq; done) | skip
    split at hq <;> first | (cases hq; done) | skip
    split at hq <;> first | (cases hq; done) | skip
    obtain ⟨_, _, rfl⟩ := Option.map_eq_some_iff.1 hq
    rfl

end
end Go.Proofs.Ytnodepfoahmcmaa.E

/- The engine, part Y: what a call is to the machine; one operation; a list of operations in the order of the text. Conditions: none. -/
namespace Go.Proofs.Ytnodepfoahmcmaa.E
set_option linter.unusedVariables false
set_option linter.unusedSimpArgs false

/-- What a call is to the machine. -/
def XS (P : Program) : Sem3 := fun f v args heap n Q => entersB P f = true ∧ ∀ (w : World) (G : Nat → Nat) (φ : Nat → Option Nat) (vs : List Value), HPre w G φ args vs heap n → Calls P f vs.toArray w fun e w' => ∃ r u heap' n' G' φ', e = .returned u ∧ Q r heap' n' ∧ HRes w G φ args vs heap n r heap' n' u w' G' φ'

section
variable {P : Program} {w : World} {G : Nat → Nat} {φ : Nat → Option Nat} {st : St} {act : Act} {ts : Array Value} {X : Sem3}

/-- What an operation does to a state. -/
def does (X : Sem3) (a : AOp) (st : St) (e : Eff) : Prop := match a.k with
  | .call f v args => (args.map st.ev).all noH = true ∧ ∃ r Q0, X f v (args.map st.ev) [] 0 Q0 ∧ (∀ r' h n, Q0 r' h n → r' = r) ∧ noH r = true ∧ e = ⟨st.moves args ++ dstw a.dst r, [], 0, none⟩
  | .callH v x args => match st.ev x with
    | .fn f cap => ∃ r hp n Q0, X f v (args.map st.ev ++ cap.map clr) st.heap st.ctr Q0 ∧ (∀ r' h' n', Q0 r' h' n' → r' = r ∧ h' = hp ∧ n' = n) ∧ e = ⟨st.moves args ++ dstw a.dst r, [], n - st.ctr, some hp⟩
    | _ => False
  | _ => eff a st = some e

/-- The machine at one operation, for whatever comes next. -/
def OpGoes (P : Program) (o : Oper) (w : World) (G : Nat → Nat) (φ : Nat → Option Nat) (st : St) (act : Act) (nt : Nat) (Post : St → Prop) : Prop :=
  ∀ (next : Act → World → Prop) (Q : Exit → Act → World → Prop), (∀ st' act' w' G' φ', Post st' → Inv w' G' φ' st' act'.tmps → act'.tmps.size = nt → act'.defers = act.defers → Goes w G φ st act.tmps w' G' φ' st' act'.tmps → next act' w') → o.wp P act w next Q

theorem opGoes_of_sound {o : Oper} {nt : Nat} {st' : St} {Post : St → Prop} (h : Sound P o w G φ st act nt st') (hp : Post st') : OpGoes P o w G φ st act nt Post := by
  intro next Q hnext
  obtain ⟨v, w', G', φ', hrun, hrest⟩ := h
  unfold Oper.wp
  rw [hrun]
  by_cases hs : isStore o.op = true
  · rw [if_pos hs]
    simp only [hs, if_true] at hrest
    exact hnext st' _ w' G' φ' hp hrest.1 hrest.2.1 hrest.2.2.1 hrest.2.2.2
  · rw [if_neg hs]
    simp only [hs] at hrest
    exact hnext st' _ w' G' φ' hp hrest.1 hrest.2.1 hrest.2.2.1 hrest.2.2.2

theorem sound_eff {ops : Array Oper} {o : Oper} {a : AOp} {nt : Nat} {e : Eff} (hk : okOp P nt ops o a = true) (hnh : ∀ f args, a.k ≠ .h f args) (he : eff a st = some e) (h : Inv w G φ st act.tmps) (hn : act.tmps.size = nt) : Sound P o w G φ st act nt (st.app e) := by
  unfold okOp at hk
  simp only [Bool.and_eq_true] at hk
  obtain ⟨⟨⟨k1, k2⟩, k3⟩, k4⟩ := hk
  have hd : o.dst = a.dst := by simpa using k1
  unfold okK at k4
  cases hak : a.k <;> rw [hak] at k4
  case p f args =>
    simp only [Bool.and_eq_true, decide_eq_true_iff] at k4
    exact sound_p hd k2 hak k4.1.1 k4.1.2 k4.2 he h hn
  case a f args =>
    simp only [Bool.and_eq_true, decide_eq_true_iff] at k4
    exact sound_a hd k2 hak k4.1.1 k4.1.2 k4.2 he h hn
  case init d n x =>
    cases hop : o.op <;> rw [hop] at k4 <;> first | (cases k4; done) | skip
    rename_i t pa v
    simp only [Bool.and_eq_true, decide_eq_true_iff, beq_iff_eq] at k4
    obtain ⟨⟨⟨⟨q1, q2⟩, q3⟩, q4⟩, q5⟩ := k4
    split at q2 <;> first | (cases q2; done) | skip
    rename_i s
    obtain rfl : s = d := by simpa using q2
    exact sound_init q5 hak hop q1 (okOpd_ok q3) q4 he h hn
  case extr s i =>
    cases hop : o.op <;> rw [hop] at k4 <;> first | (cases k4; done) | skip
    rename_i x ix
    cases x <;> first | (cases k4; done) | skip
    rename_i t
    simp only [Bool.and_eq_true, beq_iff_eq] at k4
    obtain ⟨rfl, rfl⟩ := k4
    exact sound_extr hd k2 hak hop he h hn
  case box s x =>
    cases hop : o.op <;> rw [hop] at k4 <;> first | (cases x <;> cases k4; done) | skip
    · rename_i el
      cases x <;> first | (cases k4; done) | skip
      rename_i y
      simp only at k4
      split at k4 <;> first | (cases k4; done) | skip
      rename_i i hi
      split at k4 <;> first | (cases k4; done) | skip
      rename_i z hz
      have hsol : solid y = true := by
        unfold eff at he
        rw [hak] at he
        simp only at he
        by_cases hb : solid (st.ev (.c y)) = true ∧ (st.ev (.c y)).cells.all okCell = true
        · exact hb.1
        · rw [if_neg hb] at he; cases he
      refine sound_box (v := z) (el := el) hd k2 hak (by intro t p x hs; rw [hop] at hs; cases hs) ?_ (.inr ⟨y, rfl, hsol, okCL_cells k4⟩) he h hn
      unfold execOp; rw [hop]
      refine exec_vm ?_
      unfold Instr.alloc
      rw [Sem.run_bind, run_zeroValue' hi hz, Result.andThen_ok]
      rfl
    · rename_i el v
      have k4' : okOpd v x = true := by cases x <;> exact k4
      refine sound_box (v := act.eval v) (el := el) hd k2 hak (by intro t p x hs; rw [hop] at hs; cases hs) ?_ (.inl (okOpd_ok k4')) he h hn
      unfold execOp; rw [hop]
      exact exec_vm rfl
  case loadL s p n tk =>
    cases hop : o.op <;> rw [hop] at k4 <;> first | (cases k4; done) | skip
    simp only [Bool.and_eq_true] at k4
    exact sound_loadL hd k2 hak hop k4.1 (okOpd_ok k4.2) he h hn
  case storeL s n p x =>
    cases hop : o.op <;> rw [hop] at k4 <;> first | (cases k4; done) | skip
    simp only [Bool.and_eq_true] at k4
    exact sound_storeL hd k2 hak hop k4.1.1 (okOpd_ok k4.1.2) (okOpd_ok k4.2) he h hn
  case call f v args =>
    unfold eff at he
    rw [hak] at he
    cases he
  case h f args => exact absurd hak (hnh f args)
  case callH v x args =>
    unfold eff at he
    rw [hak] at he
    cases he

/-- An operation on blocks. -/
theorem goes_h {ops : Array Oper} {o : Oper} {a : AOp} {nt : Nat} {f : HK} {args : List Opd} {e : Eff} {Post : St → Prop} (hk : okOp P nt ops o a = true) (hak : a.k = .h f args) (he : eff a st = some e) (h : Inv w G φ st act.tmps) (hn : act.tmps.size = nt) (hP : Post (st.app e)) : OpGoes P o w G φ st act nt Post := by
  intro next Q hnext
  unfold okOp at hk
  simp only [Bool.and_eq_true] at hk
  obtain ⟨⟨⟨k1, k2⟩, k3⟩, k4⟩ := hk
  have hd : o.dst = a.dst := by simpa using k1
  unfold okK at k4
  rw [hak] at k4
  simp only [Bool.and_eq_true, decide_eq_true_iff] at k4
  unfold eff at he
  rw [hak] at he
  simp only at he
  obtain ⟨q, hq, rfl⟩ := Option.map_eq_some_iff.1 he
  have hargs := okArgs_ok (w := w) (G := G) (φ := φ) (st := st) (act := act) k4.1.2
  obtain ⟨u, w', G', φ', hrun, H⟩ := hf_ok k4.1.1 (hpre hargs k4.2 h) hq
  have hc : q.2.2 = st.ctr + q.2.2 - st.ctr := by omega
  have hst : st.app ⟨st.moves args ++ dstw a.dst q.1, [], q.2.2, some q.2.1⟩ = st.app ⟨st.moves args ++ dstw o.dst q.1, [], st.ctr + q.2.2 - st.ctr, some q.2.1⟩ := by rw [hd, ← hc]
  have go : ∀ u', HRes w G φ (args.map st.ev) ((opArgs o.op).map act.eval) st.heap st.ctr q.1 q.2.1 (st.ctr + q.2.2) u' w' G' φ' → next (act.put o.dst u') w' := fun u' H' => by
    obtain ⟨g1, g2, g3, g4⟩ := goes_heap hargs k4.2 h hn (d := o.dst) (by rw [hd]; exact k2) H'
    exact hnext _ _ w' G' φ' hP (by rw [hst]; exact g1) g2 g3 (by rw [hst]; exact g4)
  unfold Oper.wp
  rw [hrun]
  by_cases hv : voidB o.op = true
  · rw [if_pos hv]
    have hj := void_junk k4.1.1 hv hq
    rw [hj] at H
    have := go undef (by rw [hj]; exact H.junk)
    exact this
  · rw [if_neg hv]
    exact go u H

theorem goes_eff {ops : Array Oper} {o : Oper} {a : AOp} {nt : Nat} {e : Eff} {Post : St → Prop} (hk : okOp P nt ops o a = true) (he : eff a st = some e) (h : Inv w G φ st act.tmps) (hn : act.tmps.size = nt) (hP : Post (st.app e)) : OpGoes P o w G φ st act nt Post := by
  by_cases hh : ∃ f args, a.k = .h f args
  · obtain ⟨f, args, hak⟩ := hh
    exact goes_h hk hak he h hn hP
  · exact opGoes_of_sound (sound_eff hk (fun f args e => hh ⟨f, args, e⟩) he h hn) hP

theorem All2.zip_mem {α β : Type} {p : α → β → Prop} {x : List α} {y : List β} (h : All2 p x y) : ∀ q ∈ x.zip y, p q.1 q.2 := by
  induction h with
  | nil => simp
  | cons hp _ ih =>
    intro q hq
    simp only [List.zip_cons_cons, List.mem_cons] at hq
    rcases hq with rfl | hq
    · exact hp
    · exact ih q hq

/-- A call that sees no block of the state. -/
theorem goes_call {ops : Array Oper} {o : Oper} {a : AOp} {nt f v : Nat} {args : List Opd} {Q0 : V → Heap → Nat → Prop} {Post : St → Prop} (hk : okOp P nt ops o a = true) (hak : a.k = .call f v args) (hh : (args.map st.ev).all noH = true) (hX : XS P f v (args.map st.ev) [] 0 Q0)
    (hQ : ∀ r h n, Q0 r h n → noH r = true ∧ Post (st.app ⟨st.moves args ++ dstw a.dst r, [], 0, none⟩)) (h : Inv w G φ st act.tmps) (hn : act.tmps.size = nt) : OpGoes P o w G φ st act nt Post := by
  intro next Q hnext
  unfold okOp at hk
  simp only [Bool.and_eq_true] at hk
  obtain ⟨⟨⟨k1, k2⟩, k3⟩, k4⟩ := hk
  have hd : o.dst = a.dst := by simpa using k1
  unfold okK at k4
  rw [hak] at k4
  cases hop : o.op <;> rw [hop] at k4 <;> first | (cases k4; done) | skip
  rename_i c
  obtain ⟨ce, oargs, ats⟩ := c
  simp only [Bool.and_eq_true, decide_eq_true_iff] at k4
  obtain ⟨⟨⟨k5, k6⟩, k7⟩, hen⟩ := k4
  cases ce <;> first | (cases k5; done) | skip
  rename_i fo
  cases fo <;> first | (cases k5; done) | skip
  rename_i g
  have hfg : f = g := by simpa using k5
  subst hfg
  have hargs := okArgs_ok (w := w) (G := G) (φ := φ) (st := st) (act := act) k6
  obtain ⟨hx, htl⟩ := evs_R h hargs
  obtain ⟨st1, rfl, i1, i2, _⟩ := h.moves args _ hargs k7
  obtain ⟨vs, hvs⟩ : ∃ vs, vs = oargs.toList.map act.eval := ⟨_, rfl⟩
  rw [← hvs] at hx htl hargs i2
  have hx0 : All2 (fun x u => R w G (fun _ => none) x u ∧ Tail w G x u) (args.map st.ev) vs := by
    have key : ∀ {xs : List V} {us : List Value}, xs.all noH = true → All2 (R w G φ) xs us → (∀ p ∈ xs.zip us, Tail w G p.1 p.2) → All2 (fun x u => R w G (fun _ => none) x u ∧ Tail w G x u) xs us := by
      intro xs us hn hr ht
      induction hr with
      | nil => exact .nil
      | cons hp _ ih =>
        simp only [List.all_cons, Bool.and_eq_true] at hn
        exact .cons ⟨hp.noH hn.1, ht (_, _) (List.mem_cons.2 (.inl rfl))⟩ (ih hn.2 fun q hq => ht q (List.mem_cons.2 (.inr hq)))
    exact key hh hx htl
  have hcall := hX.2 w G (fun _ => none) vs ⟨hx0, by simp, List.Pairwise.nil, (fun b => by
    have := i2 b; have := h.cnt b
    simp only [cntH, List.map_nil, List.sum_nil]; omega), (fun b m hb => by cases hb), h.zero⟩
  unfold entersB at hen
  cases hfn : P.funcs[f]? with
  | none => rw [hfn] at hen; cases hen
  | some fn =>
    rw [hfn] at hen
    simp only [Bool.and_eq_true] at hen
    have hrun : (execOp act.eval o).run P w = .ok (.enter f vs.toArray) w := by
      have hva : oargs.map act.eval = vs.toArray := by
        apply Array.toList_inj.1
        rw [hvs]; simp
      have h1 : execOp act.eval o = callFunc f (#[] ++ oargs.map act.eval ++ #[]) := by unfold execOp; rw [hop]; rfl
      obtain ⟨c, hc⟩ := Option.isSome_iff_exists.1 hen.2
      have hnm : fn.name ≠ "runtime.NumGoroutine" := by simpa using hen.1
      rw [h1, hva, Array.empty_append, Array.append_empty]
      simp [callFunc, hfn, hnm, hc]
    unfold Oper.wp
    rw [hrun, Oper.upon_enter]
    refine Calls.mono hcall fun e w' he => ?_
    obtain ⟨r, u, heap', n', G', φ', rfl, hq, H⟩ := he
    obtain ⟨hr, ht, _, _, hcn, _, _, hz, hext, _, hfr⟩ := H
    obtain ⟨hnr, hpost⟩ := hQ r heap' n' hq
    have hown : ∀ b, cnt w φ { st with env := sets st.env (st.moves args) } act.tmps b ≠ 0 → w'.heap[b]? = w.heap[b]? ∧ G' b = G b := fun b hb => by
      have h1 := i2 b; have h2 := h.cnt b
      have := hfr b (i1.lt hb) (by simp only [cntH, List.map_nil, List.sum_nil]; omega)
      exact ⟨this.1, this.2.1⟩
    have i3 := i1.ext hext (fun _ _ h => h) st.ctr i1.ctr hown hz
    have hcc : ∀ b, cnt w' φ { st with env := sets st.env (st.moves args) } act.tmps b = cnt w φ { st with env := sets st.env (st.moves args) } act.tmps b := fun b => cnt_congr i1 (fun _ _ h => h) (fun b hb => (hown b hb).1) b
    have htk : ∀ b, cnt w φ { st with env := sets st.env (st.moves args) } act.tmps b + tk r u b ≤ 1 := fun b => by
      have h1 := i2 b; have h2 := h.cnt b; have h3 := hcn b
      by_cases c : cnt w φ { st with env := sets st.env (st.moves args) } act.tmps b = 0
      · omega
      · have hv0 : vtk (args.map st.ev) vs b = 0 := by omega
        have := hfr b (i1.lt c) (by simp only [cntH, List.map_nil, List.sum_nil]; omega)
        omega
    have hfin := put_fin (w := w') (G := G') (st1 := { st with env := sets st.env (st.moves args) }) i3 hn (d := o.dst) (by rw [hd]; exact k2) (hr.noH hnr) ht (fun b => by rw [hcc b]; exact htk b)
    have hst : st.app ⟨st.moves args ++ dstw a.dst r, [], 0, none⟩ = ⟨sets (sets st.env (st.moves args)) (dstw o.dst r), st.loc, st.heap, st.ctr⟩ := by
      rw [hd]; simp [St.app, sets_append, sets]
    refine hnext _ _ w' G' φ hpost ?_ hfin.2.1 hfin.2.2.1 ?_
    · rw [hst]; exact hfin.1
    · rw [hst]
      refine ⟨hext, fun _ _ h => h, fun b hb hc => ?_, Nat.le_refl _⟩
      have h1 := i2 b
      have := hfr b hb (by simp only [cntH, List.map_nil, List.sum_nil]; omega)
      refine ⟨this.1, this.2.1, ?_⟩
      have h4 : cnt w' φ ⟨sets (sets st.env (st.moves args)) (dstw o.dst r), st.loc, st.heap, st.ctr⟩ (act.put o.dst u).tmps b ≤ _ := hfin.2.2.2 b
      rw [hcc b] at h4
      omega

/-- A call that works on the state's blocks. -/
theorem goes_callH {ops : Array Oper} {o : Oper} {a : AOp} {nt f v : Nat} {x : Opd} {cap : List V} {args : List Opd} {Q0 : V → Heap → Nat → Prop} {Post : St → Prop} (hk : okOp P nt ops o a = true) (hak : a.k = .callH v x args) (hx : st.ev x = .fn f cap) (hX : XS P f v (args.map st.ev ++ cap.map clr) st.heap st.ctr Q0)
    (hQ : ∀ r h n, Q0 r h n → Post (st.app ⟨st.moves args ++ dstw a.dst r, [], n - st.ctr, some h⟩)) (h : Inv w G φ st act.tmps) (hn : act.tmps.size = nt) : OpGoes P o w G φ st act nt Post := by
  intro next Q hnext
  unfold okOp at hk
  simp only [Bool.and_eq_true] at hk
  obtain ⟨⟨⟨k1, k2⟩, k3⟩, k4⟩ := hk
  have hd : o.dst = a.dst := by simpa using k1
  unfold okK at k4
  rw [hak] at k4
  cases hop : o.op <;> rw [hop] at k4 <;> first | (cases k4; done) | skip
  rename_i c
  obtain ⟨ce, oargs, ats⟩ := c
  simp only [Bool.and_eq_true, decide_eq_true_iff] at k4
  obtain ⟨⟨k5, k6⟩, k7⟩ := k4
  cases ce <;> first | (cases k5; done) | skip
  rename_i y
  have hfr := (ev_R h (okOpd_ok k5)).1
  rw [hx] at hfr
  generalize hy : act.eval y = yv at hfr
  cases hfr with | fn _ _ _ caps hl hr =>
  have hargs := okArgs_ok (w := w) (G := G) (φ := φ) (st := st) (act := act) k6
  obtain ⟨vs, hvs⟩ : ∃ vs, vs = oargs.toList.map act.eval := ⟨_, rfl⟩
  rw [← hvs] at hargs
  have hp := hpre hargs k7 h
  have hcap : All2 (fun x u => R w G φ x u ∧ Tail w G x u) (cap.map clr) caps.toList := by
    have key : ∀ (cap : List V) (cs : List Value), cs.length = cap.length → (∀ i (h : i < cap.length), R w G φ cap[i] (cs.getD i undef)) → All2 (fun x u => R w G φ x u ∧ Tail w G x u) (cap.map clr) cs := by
      intro cap
      induction cap with
      | nil =>
        intro cs hl _
        obtain rfl : cs = [] := List.eq_nil_of_length_eq_zero hl
        exact .nil
      | cons c cap ih =>
        intro cs hl hr
        cases cs with
        | nil => simp at hl
        | cons d cs =>
          have h0 := hr 0 (by simp)
          simp at h0
          exact .cons ⟨h0.clr, Tail_clr _ _ _ _⟩ (ih cs (by simpa using hl) fun i hi => by have := hr (i + 1) (by simpa using hi); simpa using this)
    refine key cap caps.toList (by simpa using hl) fun i hi => ?_
    have h1 := hr i hi
    have hi' : i < caps.size := by omega
    have : caps.toList.getD i undef = caps.getD i undef := by
      rw [List.getD_eq_getElem?_getD, List.getElem?_eq_getElem (by simpa using hi')]
      simp [Array.getD, hi']
    rw [this]
    exact h1
  have happ : ∀ {xs ys : List V} {us zs : List Value}, All2 (fun x u => R w G φ x u ∧ Tail w G x u) xs us → All2 (fun x u => R w G φ x u ∧ Tail w G x u) ys zs → All2 (fun x u => R w G φ x u ∧ Tail w G x u) (xs ++ ys) (us ++ zs) := by
    intro xs ys us zs h1 h2
    induction h1 with
    | nil => exact h2
    | cons hp _ ih => exact .cons hp ih
  have hvt : ∀ b, vtk (args.map st.ev ++ cap.map clr) (vs ++ caps.toList) b = vtk (args.map st.ev) vs b := fun b => by
    have hlen : (args.map st.ev).length = vs.length := hp.ok.length
    have h0 : vtk (cap.map clr) caps.toList b = 0 := by
      unfold vtk
      refine sum_zero fun p hp => ?_
      obtain ⟨c, d⟩ := p
      have := (List.of_mem_zip hp).1
      obtain ⟨c', _, rfl⟩ := List.mem_map.1 this
      exact tk_clr _ _ _
    unfold vtk at h0 ⊢
    rw [List.zip_append hlen, List.map_append, List.sum_append, h0]
    rfl
  have hcall := hX.2 w G φ (vs ++ caps.toList) ⟨happ hp.ok hcap, hp.reps, hp.sorted, fun b => by rw [hvt]; exact hp.cnt b, hp.ctr, hp.zero⟩
  have hen := hX.1
  unfold entersB at hen
  cases hfn : P.funcs[f]? with
  | none => rw [hfn] at hen; cases hen
  | some fn =>
    rw [hfn] at hen
    simp only [Bool.and_eq_true] at hen
    have hrun : (execOp act.eval o).run P w = .ok (.enter f (vs ++ caps.toList).toArray) w := by
      have hva : oargs.map act.eval ++ caps = (vs ++ caps.toList).toArray := by
        apply Array.toList_inj.1
        rw [hvs]; simp
      have h1 : execOp act.eval o = callFunc f (#[] ++ oargs.map act.eval ++ caps) := by
        unfold execOp; rw [hop]
        simp only [resolve, hy]
        rfl
      obtain ⟨c, hc⟩ := Option.isSome_iff_exists.1 hen.2
      have hnm : fn.name ≠ "runtime.NumGoroutine" := by simpa using hen.1
      rw [h1, Array.empty_append, hva]
      simp [callFunc, hfn, hnm, hc]
    unfold Oper.wp
    rw [hrun, Oper.upon_enter]
    refine Calls.mono hcall fun e w' he => ?_
    obtain ⟨r, u, heap', n', G', φ', rfl, hq, H⟩ := he
    have H' : HRes w G φ (args.map st.ev) vs st.heap st.ctr r heap' n' u w' G' φ' := ⟨H.rel, H.tail, H.reps, H.sorted, H.cnt, H.ctr, H.le, H.zero, H.ext, H.mono, fun b hb h0 => H.fr b hb (by rw [hvt]; exact h0)⟩
    obtain ⟨g1, g2, g3, g4⟩ := goes_heap hargs k7 h hn (d := o.dst) (by rw [hd]; exact k2) H'
    have hpost := hQ r heap' n' hq
    rw [← hd] at hpost
    exact hnext _ _ w' G' φ' hpost g1 g2 g3 g4

end
end Go.Proofs.Ytnodepfoahmcmaa.E

/- The engine, part Z: lists of operations in the order of the text, and in every order that Go leaves open. Conditions: none. -/
namespace Go.Proofs.Ytnodepfoahmcmaa.E
set_option linter.unusedVariables false
set_option linter.unusedSimpArgs false

def okOps (P : Program) (nt : Nat) (ops : Array Oper) : List Oper → List AOp → Bool
  | [], [] => true
  | o :: r, a :: q => okOp P nt ops o a && okOps P nt ops r q
  | _, _ => false

section
variable {P : Program} {w : World} {G : Nat → Nat} {φ : Nat → Option Nat} {st : St} {act : Act} {ts : Array Value} {X : Sem3}

theorem guard_ok {ops : Array Oper} {o : Oper} {a : AOp} {b : Bool} (hg : okGuard ops o.guard a.guard = true) (hw : wantedA st a.guard = some b) (h : Inv w G φ st act.tmps) : Region.wanted o (yielded ops act.tmps) = b := by
  unfold okGuard at hg
  unfold Region.wanted
  cases hog : o.guard <;> cases hag : a.guard <;> rw [hog, hag] at hg <;> first | (cases hg; done) | skip
  · rw [hag] at hw
    simp only [wantedA, Option.some.injEq] at hw
    rw [← hw]
  · rename_i p q
    obtain ⟨j, want⟩ := p
    obtain ⟨s, c⟩ := q
    simp only [Bool.and_eq_true, beq_iff_eq] at hg
    obtain ⟨rfl, hg⟩ := hg
    rw [hag] at hw
    simp only [wantedA] at hw
    split at hw <;> first | (cases hw; done) | skip
    · rename_i c hgs
      injection hw with hw; subst hw
      obtain ⟨h1, h2, _⟩ := h.env _ (get_mem hgs)
      simp only at h1 h2
      generalize hv : act.tmps.getD s undef = v at h2
      cases h2
      have : act.tmps[s]? = some (.bool c) := by
        rw [Array.getElem?_eq_getElem h1]
        simp only [Array.getD, h1, dif_pos] at hv
        rw [← hv]
        rfl
      simp only [yielded, hg, Option.bind_some, this]
      cases c <;> cases want <;> rfl
    · rename_i hgs
      injection hw with hw; subst hw
      obtain ⟨h1, h2, _⟩ := h.env _ (get_mem hgs)
      simp only at h1 h2
      generalize hv : act.tmps.getD s undef = v at h2
      cases h2
      rename_i vs hl _
      have : act.tmps[s]? = some (.tuple vs) := by
        rw [Array.getElem?_eq_getElem h1]
        simp only [Array.getD, h1, dif_pos] at hv
        rw [← hv]
        rfl
      simp only [yielded, hg, Option.bind_some, this]
      cases want <;> rfl

theorem undef_R : R w G φ (.tup []) undef := .tup _ [] #[] rfl fun i hi => absurd hi (by simp)
theorem undef_leaves : leaves (.tup []) undef = [] := rfl
theorem undef_tk (b : Nat) : tk (.tup []) undef b = 0 := by unfold tk; rw [undef_leaves]; rfl
theorem undef_Tail : Tail w G (.tup []) undef := fun p hp => by rw [undef_leaves] at hp; cases hp

/-- An operation that is left out. -/
theorem skip_ok {nt : Nat} {a : AOp} {o : Oper} (hd : o.dst = a.dst) (hdd : okDst nt a.dst = true) (h : Inv w G φ st act.tmps) (hn : act.tmps.size = nt) :
    Inv w G φ (st.app ⟨dstw a.dst (.tup []), [], 0, none⟩) (act.put o.dst undef).tmps ∧ (act.put o.dst undef).tmps.size = nt ∧ (act.put o.dst undef).defers = act.defers ∧ Goes w G φ st act.tmps w G φ (st.app ⟨dstw a.dst (.tup []), [], 0, none⟩) (act.put o.dst undef).tmps := by
  have hfin := put_fin h hn (d := o.dst) (by rw [hd]; exact hdd) undef_R undef_Tail (fun q => by rw [undef_tk]; exact h.cnt q)
  have hst : st.app ⟨dstw a.dst (.tup []), [], 0, none⟩ = ⟨sets st.env (dstw o.dst (.tup [])), st.loc, st.heap, st.ctr⟩ := by rw [hd]; simp [St.app, sets]
  rw [hst]
  refine ⟨hfin.1, hfin.2.1, hfin.2.2.1, Goes.mk (Ext.refl _ _) (fun _ _ h => h) (fun q _ hq => ⟨rfl, rfl, ?_⟩) (Nat.le_refl _)⟩
  have h5 : cnt w φ ⟨sets st.env (dstw o.dst (.tup [])), st.loc, st.heap, st.ctr⟩ (act.put o.dst undef).tmps q ≤ _ := hfin.2.2.2 q
  rw [undef_tk] at h5
  omega

theorem wpO_goes {ops : Array Oper} {o : Oper} {a : AOp} {nt : Nat} {K : St → Prop} (hk : okOp P nt ops o a = true) (hw : wpO (XS P) a K st) (h : Inv w G φ st act.tmps) (hn : act.tmps.size = nt) : OpGoes P o w G φ st act nt K := by
  unfold wpO at hw
  cases hak : a.k <;> rw [hak] at hw
  case call f v args =>
    obtain ⟨h0, Q0, h1, h2⟩ := hw
    exact goes_call hk hak h0 h1 h2 h hn
  case callH v x args =>
    simp only at hw
    cases hx : st.ev x <;> rw [hx] at hw <;> simp only at hw
    rename_i f cap
    obtain ⟨Q0, h1, h2⟩ := hw
    exact goes_callH hk hak hx h1 h2 h hn
  all_goals
    simp only at hw
    cases he : eff a st with
    | none => rw [he] at hw; exact hw.elim
    | some e => rw [he] at hw; exact goes_eff hk he h hn hw

/-- In the order of the text. -/
theorem wpL_ok {ops : Array Oper} {nt : Nat} {K : St → Prop} {Q : Exit → Act → World → Prop} : ∀ (l : List Oper) (al : List AOp), okOps P nt ops l al = true → ∀ {st : St} {act : Act} {w : World} {G : Nat → Nat} {φ : Nat → Option Nat}, wpL (XS P) al K st → Inv w G φ st act.tmps → act.tmps.size = nt →
    (∀ st' act' w' G' φ', K st' → Inv w' G' φ' st' act'.tmps → act'.tmps.size = nt → act'.defers = act.defers → Goes w G φ st act.tmps w' G' φ' st' act'.tmps → Q .normal act' w') → wpList P ops Q l act w
  | [], [], _, st, act, w, G, φ, hw, h, hn, hQ => hQ st act w G φ hw h hn rfl (Goes.refl _ _ _ _ _)
  | [], _ :: _, hk, _, _, _, _, _, _, _, _, _ => by simp [okOps] at hk
  | _ :: _, [], hk, _, _, _, _, _, _, _, _, _ => by simp [okOps] at hk
  | o :: l, a :: al, hk, st, act, w, G, φ, hw, h, hn, hQ => by
    simp only [okOps, Bool.and_eq_true] at hk
    simp only [wpL] at hw
    have hk1 := hk.1
    unfold okOp at hk1
    simp only [Bool.and_eq_true] at hk1
    obtain ⟨⟨⟨k1, k2⟩, k3⟩, k4⟩ := hk1
    have hd : o.dst = a.dst := by simpa using k1
    cases hg : wantedA st a.guard with
    | none => rw [hg] at hw; exact hw.elim
    | some b =>
      rw [hg] at hw
      simp only [W] at hw
      have hwant := guard_ok k3 hg h
      unfold wpList
      rw [hwant]
      cases b with
      | false =>
        rw [if_neg (by simp)] at hw ⊢
        obtain ⟨s1, s2, s3, s4⟩ := skip_ok hd k2 h hn
        exact wpL_ok l al hk.2 hw s1 s2 fun st' act' w' G' φ' a1 a2 a3 a4 a5 => hQ st' act' w' G' φ' a1 a2 a3 (a4.trans s3) (s4.trans a5)
      | true =>
        rw [if_pos rfl] at hw ⊢
        left
        refine wpO_goes hk.1 hw h hn _ _ fun st1 act1 w1 G1 φ1 b1 b2 b3 b4 b5 => ?_
        exact wpL_ok l al hk.2 b1 b2 b3 fun st' act' w' G' φ' a1 a2 a3 a4 a5 => hQ st' act' w' G' φ' a1 a2 a3 (a4.trans b4) (b5.trans a5)

/-! ### Every order -/
def slotsOf : List Opd → List Nat
  | [] => []
  | .t n :: r | .m n :: r => n :: slotsOf r
  | .c _ :: r => slotsOf r
def argsOf : AK → List Opd
  | .p _ args | .a _ args | .call _ _ args | .h _ args => args
  | .callH _ x args => x :: args
  | .extr _ _ => []
  | .box _ x => [x]
  | .init _ _ x => [x]
  | .loadL _ p _ _ => [p]
  | .storeL _ _ p x => [p, x]
def rdE (a : AOp) : List Nat := (match a.guard with | some (s, _) => [s] | none => []) ++ ((match a.k with | .extr s _ => [s] | .init s _ _ => [s] | _ => []) ++ slotsOf (argsOf a.k))
def wrE (a : AOp) : List Nat := (match a.dst with | some d => [d] | none => []) ++ ((match a.k with | .extr s _ => [s] | .init s _ _ => [s] | _ => []) ++ mslots (argsOf a.k))
def rdL (a : AOp) : List Nat := match a.k with | .loadL s _ _ _ | .storeL s _ _ _ => [s] | _ => []
def wrL (a : AOp) : List Nat := match a.k with | .loadL s _ _ true | .storeL s _ _ _ | .box s _ => [s] | _ => []
def rdHK : HK → Bool
  | .loadH _ | .look .. | .lenM => true
  | _ => false
def ctA (a : AOp) : Bool := match a.k with | .box .. | .callH .. => true | .h f _ => !rdHK f | _ => false
def rhA (a : AOp) : Bool := match a.k with | .h f _ => rdHK f | _ => false
theorem hf_rd {f : HK} (hr : rdHK f = true) (xs : List V) (h : Heap) (n n' : Nat) : hf f xs h n = hf f xs h n' := by cases f <;> first | rfl | (cases hr)
theorem hf_rd2 {f : HK} (hr : rdHK f = true) {xs : List V} {h : Heap} {n : Nat} {q : V × Heap × Nat} (hq : hf f xs h n = some q) : q.2.1 = h ∧ q.2.2 = 0 := by
  cases f <;> first | (cases hr; done) | skip
  case loadH =>
    simp only [hf] at hq
    split at hq <;> first | (cases hq; done) | skip
    split at hq <;> first | (cases hq; done) | skip
    split at hq <;> first | (cases hq; done) | skip
    obtain ⟨_, _, hq⟩ := Option.bind_eq_some_iff.1 hq
    obtain ⟨_, _, rfl⟩ := Option.map_eq_some_iff.1 hq
    exact ⟨rfl, rfl⟩
  case look =>
    simp only [hf] at hq
    split at hq <;> first | (cases hq; done) | skip
    · injection hq with hq; subst hq; exact ⟨rfl, rfl⟩
    · split at hq <;> first | (cases hq; done) | skip
      obtain ⟨_, _, rfl⟩ := Option.map_eq_some_iff.1 hq
      exact ⟨rfl, rfl⟩
  case lenM =>
    simp only [hf] at hq
    split at hq <;> first | (cases hq; done) | skip
    · injection hq with hq; subst hq; exact ⟨rfl, rfl⟩
    · split at hq <;> first | (cases hq; done) | skip
      injection hq with hq; subst hq; exact ⟨rfl, rfl⟩
def disj (x y : List Nat) : Bool := x.all fun k => !y.contains k
def slotsOk (a b : AOp) : Bool := disj (wrE a) (rdE b) && disj (wrE a) (wrE b) && disj (wrE b) (rdE a) && disj (wrL a) (rdL b) && disj (wrL a) (wrL b) && disj (wrL b) (rdL a)
def heapOk (a b : AOp) : Bool := !(ctA a && (ctA b || rhA b)) && !(rhA a && ctA b)
/-- A row is taken out of a cell; a cell is read. -/
def tkA (a : AOp) : Bool := match a.k with | .h .takeH _ => true | _ => false
def ldA (a : AOp) : Bool := match a.k with | .h (.loadH _) _ => true | _ => false
/-- A new row of one element. -/
def nwA (a : AOp) : Bool := match a.k with | .h (.bsliceM _) _ => true | _ => false
def indep (a b : AOp) : Bool := slotsOk a b && (heapOk a b || (tkA a && ldA b) || (ldA a && (tkA b || nwA b)))

theorem disj_spec {x y : List Nat} (h : disj x y = true) {k : Nat} (hx : k ∈ x) : k ∉ y := by
  unfold disj at h
  have := List.all_eq_true.1 h k hx
  simpa using this

/-- One operation, wanted or left out. -/
def stepR (X : Sem3) (a : AOp) (st : St) (e : Eff) : Prop := (wantedA st a.guard = some true ∧ does X a st e) ∨ (wantedA st a.guard = some false ∧ e = ⟨dstw a.dst (.tup []), [], 0, none⟩)

theorem evs_congr {st st' : St} : ∀ {args : List Opd}, (∀ n ∈ slotsOf args, get st'.env n = get st.env n) → args.map st'.ev = args.map st.ev ∧ st'.moves args = st.moves args
  | [], _ => ⟨rfl, rfl⟩
  | .t n :: r, h => by
    obtain ⟨h1, h2⟩ := evs_congr (args := r) fun k hk => h k (by simp [slotsOf, hk])
    refine ⟨?_, by simp only [St.moves]; exact h2⟩
    simp only [List.map_cons, h1, St.ev, h n (by simp [slotsOf])]
  | .m n :: r, h => by
    obtain ⟨h1, h2⟩ := evs_congr (args := r) fun k hk => h k (by simp [slotsOf, hk])
    refine ⟨?_, by simp only [St.moves, h2, h n (by simp [slotsOf])]⟩
    simp only [List.map_cons, h1, St.ev, h n (by simp [slotsOf])]
  | .c y :: r, h => by
    obtain ⟨h1, h2⟩ := evs_congr (args := r) fun k hk => h k (by simp [slotsOf, hk])
    refine ⟨?_, by simp only [St.moves]; exact h2⟩
    simp only [List.map_cons, h1, St.ev]

theorem stepR_congr {a : AOp} {st st' : St} {e : Eff} (hs : stepR X a st e) (h1 : ∀ n ∈ rdE a, get st'.env n = get st.env n) (h2 : ∀ n ∈ rdL a, get st'.loc n = get st.loc n) (h3 : ctA a = true → st'.ctr = st.ctr) (h4 : (ctA a || rhA a) = true → st'.heap = st.heap) : stepR X a st' e := by
  have hg : wantedA st' a.guard = wantedA st a.guard := by
    cases hag : a.guard with
    | none => rfl
    | some p =>
      obtain ⟨s, b⟩ := p
      simp only [wantedA, h1 s (by simp [rdE, hag])]
  unfold stepR at hs ⊢
  rw [hg]
  refine hs.imp (fun hs => ⟨hs.1, ?_⟩) id
  have hd := hs.2
  obtain ⟨v1, v2⟩ := evs_congr (st := st) (st' := st') (args := argsOf a.k) fun n hn => h1 n (by simp [rdE, hn])
  unfold does at hd ⊢
  cases hk : a.k <;> rw [hk] at hd v1 v2 <;> simp only at hd ⊢ <;> simp only [argsOf] at v1 v2
  case call f v args => rw [v1, v2]; exact hd
  case callH v x args =>
    have e1 : st'.ev x = st.ev x := by simpa using congrArg List.head? v1
    have e2 : args.map st'.ev = args.map st.ev := by simpa using congrArg List.tail v1
    have e3 : st'.moves args = st.moves args := (evs_congr (st := st) (st' := st') (args := args) fun n hn => h1 n (by
      simp only [rdE, hk, argsOf]
      refine List.mem_append_right _ (List.mem_append_right _ ?_)
      cases x <;> simp [slotsOf, hn])).2
    rw [e1, e2, e3, h3 (by simp [ctA, hk]), h4 (by simp [ctA, hk])]
    exact hd
  all_goals
    unfold eff at hd ⊢
    rw [hk] at hd ⊢
    simp only at hd ⊢
  case p f args => rw [v1, v2]; exact hd
  case a f args => rw [v1, v2]; exact hd
  case h f args =>
    rw [v1, v2, h4 (by simp only [ctA, rhA, hk]; cases rdHK f <;> rfl)]
    cases hr : rdHK f with
    | true => rw [hf_rd hr _ _ st'.ctr st.ctr]; exact hd
    | false => rw [h3 (by simp [ctA, hk, hr])]; exact hd
  case extr s i => rw [h1 s (by simp [rdE, hk])]; exact hd
  case init s n x =>
    simp only [List.map_cons, List.map_nil, List.cons.injEq, and_true] at v1
    rw [v1, v2, h1 s (by simp [rdE, hk])]
    exact hd
  case box s x =>
    simp only [List.map_cons, List.map_nil, List.cons.injEq, and_true] at v1
    rw [v1, v2, h3 (by simp [ctA, hk])]
    exact hd
  case loadL s p n tk =>
    simp only [List.map_cons, List.map_nil, List.cons.injEq, and_true] at v1
    rw [v1, h2 s (by simp [rdL, hk])]
    exact hd
  case storeL s n p x =>
    simp only [List.map_cons, List.map_nil, List.cons.injEq, and_true] at v1
    have v3 : st'.moves [x] = st.moves [x] := (evs_congr (st := st) (st' := st') (args := [x]) fun n hn => h1 n (by
      simp only [rdE, hk, argsOf]
      refine List.mem_append_right _ (List.mem_append_right _ ?_)
      cases p <;> cases x <;> simp [slotsOf] at hn ⊢ <;> simp [hn])).2
    rw [v1.1, v1.2, v3, h2 s (by simp [rdL, hk])]
    exact hd

theorem moves_keys' {st : St} {p : Nat × V} : ∀ (args : List Opd), p ∈ st.moves args → p.1 ∈ mslots args
  | [], h => by simp [St.moves] at h
  | .t n :: r, h => moves_keys' r h
  | .c y :: r, h => moves_keys' r h
  | .m n :: r, h => by
    simp only [St.moves, List.mem_append] at h
    rcases h with h | h
    · cases hg : get st.env n with
      | none => rw [hg] at h; simp at h
      | some x => rw [hg] at h; simp at h; subst h; simp [mslots]
    · simp [mslots, moves_keys' r h]
theorem moves_keys {st : St} {args : List Opd} {p : Nat × V} (h : p ∈ st.moves args) : p.1 ∈ mslots args := moves_keys' args h
theorem dstw_keys {d : Option Nat} {x : V} {p : Nat × V} (h : p ∈ dstw d x) : d = some p.1 := by
  cases d with
  | none => simp [dstw] at h
  | some d => simp [dstw] at h; subst h; rfl

theorem stepR_writes {a : AOp} {st : St} {e : Eff} (hs : stepR X a st e) : (∀ p ∈ e.e, p.1 ∈ wrE a) ∧ (∀ p ∈ e.l, p.1 ∈ wrL a) ∧ (e.c ≠ 0 → ctA a = true) ∧ (e.h ≠ none → ctA a = true ∨ (rhA a = true ∧ e.h = some st.heap)) := by
  have hdst : ∀ {x : V} {p : Nat × V}, p ∈ dstw a.dst x → p.1 ∈ wrE a := fun {x p} h => by
    have := dstw_keys h
    simp [wrE, this]
  have hmv : ∀ {args : List Opd} {p : Nat × V}, args = argsOf a.k → p ∈ st.moves args → p.1 ∈ wrE a := fun {args p} he h => by
    subst he
    simp only [wrE]
    exact List.mem_append_right _ (List.mem_append_right _ (moves_keys h))
  rcases hs with ⟨_, hd⟩ | ⟨_, rfl⟩
  · unfold does at hd
    cases hk : a.k <;> rw [hk] at hd <;> simp only at hd
    case call f v args =>
      obtain ⟨_, r, Q0, _, _, _, rfl⟩ := hd
      refine ⟨fun p hp => ?_, by simp, by simp, by simp⟩
      rcases List.mem_append.1 hp with hp | hp
      · exact hmv (by rw [hk]; rfl) hp
      · exact hdst hp
    case callH v x args =>
      cases hx : st.ev x <;> rw [hx] at hd <;> simp only at hd
      obtain ⟨r, hp0, n, Q0, _, _, rfl⟩ := hd
      refine ⟨fun p hp => ?_, by simp, fun _ => by simp [ctA, hk], fun _ => .inl (by simp [ctA, hk])⟩
      rcases List.mem_append.1 hp with hp | hp
      · have := moves_keys hp
        simp only [wrE, hk, argsOf]
        refine List.mem_append_right _ (List.mem_append_right _ ?_)
        cases x <;> simp [mslots, this]
      · exact hdst hp
    all_goals
      unfold eff at hd
      rw [hk] at hd
      simp only at hd
    case h f args =>
      obtain ⟨y, hy, rfl⟩ := Option.map_eq_some_iff.1 hd
      refine ⟨fun p hp => ?_, by simp, fun hc => ?_, fun _ => ?_⟩
      rotate_left
      · cases hr : rdHK f with
        | true => exact absurd (hf_rd2 hr hy).2 hc
        | false => simp [ctA, hk, hr]
      · cases hr : rdHK f with
        | true => exact .inr ⟨by simp [rhA, hk, hr], by rw [(hf_rd2 hr hy).1]⟩
        | false => exact .inl (by simp [ctA, hk, hr])
      rcases List.mem_append.1 hp with hp | hp
      · exact hmv (by rw [hk]; rfl) hp
      · exact hdst hp
    case p f args =>
      obtain ⟨y, _, rfl⟩ := Option.map_eq_some_iff.1 hd
      refine ⟨fun p hp => ?_, by simp, by simp, by simp⟩
      rcases List.mem_append.1 hp with hp | hp
      · exact hmv (by rw [hk]; rfl) hp
      · exact hdst hp
    case a f args =>
      obtain ⟨y, _, rfl⟩ := Option.map_eq_some_iff.1 hd
      refine ⟨fun p hp => ?_, by simp, by simp, by simp⟩
      rcases List.mem_append.1 hp with hp | hp
      · exact hmv (by rw [hk]; rfl) hp
      · exact hdst hp
    case extr s i =>
      split at hd <;> first | (cases hd; done) | skip
      obtain ⟨x, _, hd⟩ := Option.bind_eq_some_iff.1 hd
      have : ∃ y z, e = ⟨(s, y) :: dstw a.dst z, [], 0, none⟩ := by cases x <;> first | (simp at hd; exact ⟨_, _, hd.symm⟩) | (simp at hd)
      obtain ⟨y, z, rfl⟩ := this
      refine ⟨fun p hp => ?_, by simp, by simp, by simp⟩
      rcases List.mem_cons.1 hp with rfl | hp
      · simp [wrE, hk]
      · exact hdst hp
    case box s x =>
      split at hd <;> first | (cases hd; done) | skip
      injection hd with hd; subst hd
      refine ⟨fun p hp => ?_, fun p hp => ?_, fun _ => by simp [ctA, hk], fun _ => by simp [ctA, hk]⟩
      · rcases List.mem_append.1 hp with hp | hp
        · exact hmv (by rw [hk]; rfl) hp
        · exact hdst hp
      · simp at hp; subst hp; simp [wrL, hk]
    case loadL s p n tk =>
      split at hd <;> first | (cases hd; done) | skip
      split at hd <;> first | (cases hd; done) | skip
      cases tk <;> cases n <;> simp only at hd <;> first | (cases hd; done) | skip
      · obtain ⟨y, _, rfl⟩ := Option.map_eq_some_iff.1 hd
        exact ⟨fun p hp => hdst hp, by simp, by simp, by simp⟩
      · obtain ⟨y, _, rfl⟩ := Option.map_eq_some_iff.1 hd
        exact ⟨fun p hp => hdst hp, by simp, by simp, by simp⟩
      · obtain ⟨y, _, hd⟩ := Option.bind_eq_some_iff.1 hd
        split at hd <;> first | (cases hd; done) | skip
        injection hd with hd; subst hd
        refine ⟨fun p hp => hdst hp, fun p hp => ?_, by simp, by simp⟩
        simp at hp; subst hp; simp [wrL, hk]
    case init s n x =>
      split at hd <;> first | (cases hd; done) | skip
      split at hd <;> first | (cases hd; done) | skip
      injection hd with hd; subst hd
      refine ⟨fun q hp => ?_, by simp, by simp, by simp⟩
      rcases List.mem_append.1 hp with hp | hp
      · exact hmv (by rw [hk]; rfl) hp
      · simp at hp; subst hp; simp [wrE, hk]
    case storeL s n p x =>
      split at hd <;> first | (cases hd; done) | skip
      split at hd <;> first | (cases hd; done) | skip
      injection hd with hd; subst hd
      refine ⟨fun q hp => ?_, fun q hp => ?_, by simp, by simp⟩
      · rcases List.mem_append.1 hp with hp | hp
        · have := moves_keys hp
          simp only [wrE, hk, argsOf]
          refine List.mem_append_right _ (List.mem_append_right _ ?_)
          cases p <;> cases x <;> simp [mslots] at this ⊢ <;> simp [this]
        · exact hdst hp
      · simp at hp; subst hp; simp [wrL, hk]
  · exact ⟨fun p hp => hdst hp, by simp, by simp, by simp⟩

theorem get_sets_ne {α : Type} : ∀ (l : List (Nat × α)) (r : List (Nat × α)) {j : Nat}, (∀ p ∈ l, p.1 ≠ j) → get (sets r l) j = get r j
  | [], r, j, _ => rfl
  | p :: l, r, j, h => by
    show get (sets (set r p.1 p.2) l) j = _
    rw [get_sets_ne l _ fun q hq => h q (by simp [hq]), get_set_ne _ _ (fun e => h p (by simp) e.symm)]
theorem set_comm {α : Type} : ∀ (l : List (Nat × α)) {i j : Nat} (x y : α), i ≠ j → set (set l i x) j y = set (set l j y) i x
  | [], i, j, x, y, h => by
    simp only [set]
    by_cases c : j < i
    · rw [if_pos c, if_neg (by omega), if_neg h]
    · rw [if_neg c, if_neg (fun e => h e.symm), if_pos (by omega)]
  | (a, z) :: r, i, j, x, y, h => by
    have ih := set_comm r x y h
    simp only [set]
    by_cases i1 : i < a
    · by_cases j1 : j < a
      · rw [if_pos i1, if_pos j1]
        simp only [set]
        by_cases c : j < i
        · rw [if_pos c, if_neg (by omega), if_neg h, if_pos i1]
        · rw [if_neg c, if_neg (fun e => h e.symm), if_pos j1, if_pos (by omega)]
      · by_cases j2 : j = a
        · subst j2
          rw [if_pos i1, if_neg j1, if_pos rfl]
          simp only [set]
          rw [if_neg (by omega), if_neg (by omega), if_neg j1, if_pos trivial, if_pos i1]
        · rw [if_pos i1, if_neg j1, if_neg j2]
          simp only [set]
          rw [if_neg (by omega), if_neg (by omega), if_neg j1, if_neg j2, if_pos i1]
    · by_cases i2 : i = a
      · subst i2
        rw [if_neg i1, if_pos rfl]
        by_cases j1 : j < i
        · rw [if_pos j1]
          simp only [set]
          rw [if_pos j1, if_neg (by omega), if_neg h, if_neg i1, if_pos trivial]
        · have j2 : j ≠ i := fun e => h e.symm
          rw [if_neg j1, if_neg j2]
          simp only [set]
          rw [if_neg j1, if_neg j2, if_neg i1, if_pos trivial]
      · rw [if_neg i1, if_neg i2]
        by_cases j1 : j < a
        · rw [if_pos j1]
          simp only [set]
          rw [if_pos j1, if_neg (by omega), if_neg h, if_neg i1, if_neg i2]
        · by_cases j2 : j = a
          · subst j2
            rw [if_neg j1, if_pos rfl]
            simp only [set]
            rw [if_neg j1, if_pos trivial, if_neg i1, if_neg i2]
          · rw [if_neg j1, if_neg j2]
            simp only [set]
            rw [if_neg j1, if_neg j2, if_neg i1, if_neg i2, ih]
theorem sets_set_comm {α : Type} : ∀ (l : List (Nat × α)) (r : List (Nat × α)) (i : Nat) (x : α), (∀ p ∈ l, p.1 ≠ i) → sets (set r i x) l = set (sets r l) i x
  | [], r, i, x, _ => rfl
  | p :: l, r, i, x, h => by
    show sets (set (set r i x) p.1 p.2) l = set (sets (set r p.1 p.2) l) i x
    rw [set_comm r x p.2 (fun e => h p (by simp) e.symm), sets_set_comm l _ i x fun q hq => h q (by simp [hq])]
theorem sets_comm {α : Type} : ∀ (l l' : List (Nat × α)) (r : List (Nat × α)), (∀ p ∈ l, ∀ q ∈ l', p.1 ≠ q.1) → sets (sets r l) l' = sets (sets r l') l
  | [], l', r, _ => rfl
  | p :: l, l', r, h => by
    show sets (sets (set r p.1 p.2) l) l' = sets (set (sets r l') p.1 p.2) l
    rw [sets_comm l l' _ (fun a ha b hb => h a (by simp [ha]) b hb), sets_set_comm l' r p.1 p.2 fun q hq => fun e => h p (by simp) q hq e.symm]

theorem swap0 {a b : AOp} {st : St} {ea eb : Eff} (ha : stepR X a st ea) (hb : stepR X b (st.app ea) eb) (hs : slotsOk a b = true) (hi : heapOk a b = true) : stepR X b st eb ∧ stepR X a (st.app eb) ea ∧ (st.app ea).app eb = (st.app eb).app ea := by
  unfold slotsOk at hs
  unfold heapOk at hi
  simp only [Bool.and_eq_true, Bool.not_eq_true'] at hs hi
  obtain ⟨⟨⟨⟨⟨i1, i2⟩, i3⟩, i4⟩, i5⟩, i6⟩ := hs
  obtain ⟨i7, i8⟩ := hi
  obtain ⟨wa1, wa2, wa3, wa4⟩ := stepR_writes ha
  obtain ⟨wb1, wb2, wb3, wb4⟩ := stepR_writes hb
  have na : (ctA b || rhA b) = true → (st.app ea).heap = st.heap := fun hc => by
    cases e : ea.h with
    | none => simp [St.app, e]
    | some x =>
      rcases wa4 (by rw [e]; simp) with hh | ⟨_, hh⟩
      · rw [hh, hc] at i7; cases i7
      · simp [St.app, hh]
  have nb : (ctA a || rhA a) = true → (st.app eb).heap = st.heap := fun hc => by
    cases e : eb.h with
    | none => simp [St.app, e]
    | some x =>
      rcases wb4 (by rw [e]; simp) with hh | ⟨hr, hh⟩
      · exfalso
        cases h1 : ctA a <;> cases h2 : rhA a <;> simp [h1, h2, hh] at hc i7 i8
      · simp only [St.app, hh, Option.getD_some]
        exact na (by rw [hr]; simp)
  have hb' : stepR X b st eb := stepR_congr hb (fun n hn => (get_sets_ne ea.e st.env fun p hp e => disj_spec i1 (wa1 p hp) (e ▸ hn)).symm) (fun n hn => (get_sets_ne ea.l st.loc fun p hp e => disj_spec i4 (wa2 p hp) (e ▸ hn)).symm) (fun hc => by
    rcases Nat.eq_zero_or_pos ea.c with e | e
    · simp [St.app, e]
    · have := wa3 (by omega); rw [this, hc] at i7; cases i7) (fun hc => (na hc).symm)
  have ha' : stepR X a (st.app eb) ea := stepR_congr ha (fun n hn => get_sets_ne eb.e st.env fun p hp e => disj_spec i3 (wb1 p hp) (e ▸ hn)) (fun n hn => get_sets_ne eb.l st.loc fun p hp e => disj_spec i6 (wb2 p hp) (e ▸ hn)) (fun hc => by
    rcases Nat.eq_zero_or_pos eb.c with e | e
    · simp [St.app, e]
    · have := wb3 (by omega); rw [this, hc] at i7; cases i7) nb
  refine ⟨hb', ha', ?_⟩
  simp only [St.app, St.mk.injEq, true_and]
  refine ⟨sets_comm _ _ _ fun p hp q hq e => disj_spec i2 (wa1 p hp) (e ▸ wb1 q hq), sets_comm _ _ _ fun p hp q hq e => disj_spec i5 (wa2 p hp) (e ▸ wb2 q hq), ?_, by omega⟩
  cases e1 : ea.h with
  | none => rfl
  | some x =>
    cases e2 : eb.h with
    | none => rfl
    | some y =>
      simp only [Option.getD_some]
      rcases wa4 (by rw [e1]; simp) with hh | ⟨hr, hh⟩
      · exfalso
        rcases wb4 (by rw [e2]; simp) with h2 | ⟨h2, _⟩ <;> simp [hh, h2] at i7
      · rcases wb4 (by rw [e2]; simp) with h2 | ⟨h2, h3⟩
        · simp [hr, h2] at i8
        · rw [e1] at hh
          rw [e2] at h3
          injection hh with hh; injection h3 with h3
          rw [hh, h3]
          exact na (by rw [h2]; simp)


/-! A row is taken out of a cell, and a cell is read: in either order. -/
theorem map_clr1_set : ∀ (cs : List V) (i : Nat), (cs.set i (clr1 (cs.getD i .junk))).map clr1 = cs.map clr1
  | [], _ => rfl
  | c :: cs, 0 => by cases c <;> simp [clr1]
  | c :: cs, i + 1 => by simpa using map_clr1_set cs i
theorem part_set (cs : List V) (i off : Nat) (m : Option Nat) (hi : i < cs.length) (hok : okCell cs[i] = true) : (part (cs.set i (clr1 cs[i])) off m).map clr = (part cs off m).map clr := by
  cases m with
  | none =>
    simp only [part]
    by_cases e : off = i
    · subst e
      rw [List.getElem?_set_self hi, List.getElem?_eq_getElem hi]
      simp only [Option.map_some]
      congr 1
      generalize cs[off] = c at hok
      cases c <;> first | rfl | (simp [okCell] at hok)
    · rw [List.getElem?_set_ne (fun h => e h.symm)]
  | some n =>
    simp only [part, List.length_set]
    split
    · simp only [Option.map_some, clr, clr2]
      congr 2
      rw [List.map_take, List.map_take, List.map_drop, List.map_drop]
      have := map_clr1_set cs i
      rw [List.getD_eq_getElem?_getD, List.getElem?_eq_getElem hi] at this
      rw [show cs.set i (clr1 cs[i]) = cs.set i (clr1 ((some cs[i]).getD .junk)) from rfl, this]
    · rfl
theorem reRow_set {row : V} {off : Nat} (h : off < row.cells.length) (hok : okCell row.cells[off] = true) : (reRow row (row.cells.take off ++ [clr1 row.cells[off]] ++ row.cells.drop (off + 1))).cells = row.cells.set off (clr1 row.cells[off]) := by
  have hset : row.cells.take off ++ [clr1 row.cells[off]] ++ row.cells.drop (off + 1) = row.cells.set off (clr1 row.cells[off]) := by
    rw [List.set_eq_take_append_cons_drop, if_pos h]; simp
  rw [hset]
  by_cases ha : ∃ cs, row = .agg cs
  · obtain ⟨cs, rfl⟩ := ha; rfl
  · have hc : row.cells = [row] := by cases row <;> first | rfl | exact absurd ⟨_, rfl⟩ ha
    have h0 : off = 0 := by rw [hc] at h; simp at h; exact h
    subst h0
    have e : row.cells[0] = row := by simp [hc]
    rw [e] at hok ⊢
    rw [hc]
    simp only [List.set_cons_zero]
    cases row <;> first | (simp [okCell] at hok; done) | rfl
theorem take_load {xs ys : List V} {h h1 : Heap} {n n' k : Nat} {m : Option Nat} {c : V} (ht : hf .takeH xs h n = some (c, h1, k)) : hf (.loadH m) ys h1 n' = (hf (.loadH m) ys h n').map fun q => (q.1, h1, q.2.2) := by
  simp only [hf] at ht
  split at ht <;> first | (cases ht; done) | skip
  split at ht <;> first | (cases ht; done) | skip
  rename_i b sz i off _ sz' l hg
  split at ht <;> first | (cases ht; done) | skip
  rename_i hs
  subst hs
  obtain ⟨row, hr, ht⟩ := Option.bind_eq_some_iff.1 ht
  obtain ⟨c', hc, ht⟩ := Option.bind_eq_some_iff.1 ht
  split at ht <;> first | (cases ht; done) | skip
  rename_i hok
  injection ht with ht; injection ht with t1 t2; injection t2 with t2 t3
  subst t1; subst t2; subst t3
  obtain ⟨ho, rfl⟩ := List.getElem?_eq_some_iff.1 hc
  obtain ⟨hi, rfl⟩ := List.getElem?_eq_some_iff.1 hr
  simp only [hf]
  split
  case h_2 => rfl
  rename_i b2 sz2 i2 off2
  by_cases e : b2 = b
  · subst e
    rw [get_set_eq, hg]
    simp only
    split
    · by_cases e2 : i2 = i
      · subst e2
        rw [List.getElem?_set_self hi, List.getElem?_eq_getElem hi]
        simp only [Option.bind_some, reRow_set ho hok]
        have hp := part_set (l[i2]).cells off off2 m ho hok
        cases h1 : part ((l[i2]).cells.set off (clr1 (l[i2]).cells[off])) off2 m <;> cases h2 : part (l[i2]).cells off2 m <;> rw [h1, h2] at hp <;> simp at hp ⊢
        exact hp
      · rw [List.getElem?_set_ne (fun h => e2 h.symm)]
        cases l[i2]? with
        | none => rfl
        | some r => simp only [Option.bind_some, Option.map_map]; rfl
    · rfl
  · rw [get_set_ne _ _ e]
    cases get h b2 with
    | none => rfl
    | some blk =>
      cases blk with
      | rows sz3 l3 =>
        simp only
        split
        · cases l3[i2]? with
          | none => rfl
          | some r => simp only [Option.bind_some, Option.map_map]; rfl
        · rfl
      | map es => rfl
      | bld T e s => rfl
theorem new_load {xs ys : List V} {h h1 : Heap} {n n' k z : Nat} {m : Option Nat} {c : V} {q : V × Heap × Nat} (ht : hf (.bsliceM z) xs h n = some (c, h1, k)) (hq : hf (.loadH m) ys h n' = some q) : hf (.loadH m) ys h1 n' = some (q.1, h1, q.2.2) := by
  simp only [hf] at ht
  split at ht <;> first | (cases ht; done) | skip
  split at ht <;> first | (cases ht; done) | skip
  rename_i hc
  have hn : get h n = none := by
    have := hc.1
    cases hg : get h n with
    | none => rfl
    | some x => rw [hg] at this; cases this
  injection ht with ht; injection ht with t1 t2; injection t2 with t2 t3
  subst t2
  simp only [hf] at hq
  split at hq <;> first | (cases hq; done) | skip
  rename_i b sz i off
  simp only [hf]
  have hne : b ≠ n := fun e => by subst e; rw [hn] at hq; cases hq
  rw [get_set_ne _ _ hne]
  split at hq <;> first | (cases hq; done) | skip
  rename_i sz' l hg
  split at hq <;> first | (cases hq; done) | skip
  rename_i hs
  rw [if_pos hs]
  obtain ⟨row, hr, hq⟩ := Option.bind_eq_some_iff.1 hq
  obtain ⟨y, hy, rfl⟩ := Option.map_eq_some_iff.1 hq
  rw [hr, Option.bind_some, hy]
  rfl
theorem off_congr {a : AOp} {st st' : St} (h : wantedA st a.guard = some false) (h1 : ∀ n ∈ rdE a, get st'.env n = get st.env n) : wantedA st' a.guard = wantedA st a.guard := by
  cases hag : a.guard with
  | none => rfl
  | some p =>
    obtain ⟨s, b⟩ := p
    simp only [wantedA, h1 s (by simp [rdE, hag])]

/-- Two operations side by side, in either order. -/
theorem swap {a b : AOp} {st : St} {ea eb : Eff} (ha : stepR X a st ea) (hb : stepR X b (st.app ea) eb) (hi : indep a b = true) : ∃ ea' eb', stepR X b st eb' ∧ stepR X a (st.app eb') ea' ∧ (st.app ea).app eb = (st.app eb').app ea' := by
  unfold indep at hi
  rw [Bool.and_eq_true] at hi
  obtain ⟨hs, hi⟩ := hi
  by_cases hh : heapOk a b = true
  · obtain ⟨h1, h2, h3⟩ := swap0 ha hb hs hh
    exact ⟨ea, eb, h1, h2, h3⟩
  have hs' := hs
  unfold slotsOk at hs'
  simp only [Bool.and_eq_true] at hs'
  obtain ⟨⟨⟨⟨⟨i1, i2⟩, i3⟩, i4⟩, i5⟩, i6⟩ := hs'
  obtain ⟨wa1, wa2, _, _⟩ := stepR_writes ha
  obtain ⟨wb1, wb2, _, _⟩ := stepR_writes hb
  have E1 : ∀ n ∈ rdE b, get (sets st.env ea.e) n = get st.env n := fun n hn => get_sets_ne ea.e st.env fun p hp e => disj_spec i1 (wa1 p hp) (e ▸ hn)
  have L1 : ∀ n ∈ rdL b, get (sets st.loc ea.l) n = get st.loc n := fun n hn => get_sets_ne ea.l st.loc fun p hp e => disj_spec i4 (wa2 p hp) (e ▸ hn)
  have E2 : ∀ n ∈ rdE a, get (sets st.env eb.e) n = get st.env n := fun n hn => get_sets_ne eb.e st.env fun p hp e => disj_spec i3 (wb1 p hp) (e ▸ hn)
  have L2 : ∀ n ∈ rdL a, get (sets st.loc eb.l) n = get st.loc n := fun n hn => get_sets_ne eb.l st.loc fun p hp e => disj_spec i6 (wb2 p hp) (e ▸ hn)
  have cE : sets (sets st.env ea.e) eb.e = sets (sets st.env eb.e) ea.e := sets_comm _ _ _ fun p hp q hq e => disj_spec i2 (wa1 p hp) (e ▸ wb1 q hq)
  have cL : sets (sets st.loc ea.l) eb.l = sets (sets st.loc eb.l) ea.l := sets_comm _ _ _ fun p hp q hq e => disj_spec i5 (wa2 p hp) (e ▸ wb2 q hq)
  rcases ha with ⟨ga, da⟩ | ⟨ga, rfl⟩
  rotate_left
  · have hb' : stepR X b st eb := stepR_congr hb (fun n hn => (E1 n hn).symm) (fun n hn => (L1 n hn).symm) (fun _ => rfl) (fun _ => rfl)
    refine ⟨_, _, hb', .inr ⟨by rw [off_congr ga (st' := st.app eb) E2]; exact ga, rfl⟩, ?_⟩
    simp only [St.app, St.mk.injEq]
    exact ⟨cE, cL, rfl, by omega⟩
  rcases hb with ⟨gb, db⟩ | ⟨gb, rfl⟩
  rotate_left
  · have ha' : stepR X a (st.app ⟨dstw b.dst (.tup []), [], 0, none⟩) ea := stepR_congr (.inl ⟨ga, da⟩) E2 L2 (fun _ => rfl) (fun _ => rfl)
    refine ⟨_, _, .inr ⟨by rw [off_congr gb (st' := st) (fun n hn => (E1 n hn).symm)]; exact gb, rfl⟩, ha', ?_⟩
    simp only [St.app, St.mk.injEq]
    exact ⟨cE, cL, rfl, by omega⟩
  have hgb : wantedA st b.guard = wantedA (st.app ea) b.guard := by
    cases hag : b.guard with
    | none => rfl
    | some p =>
      obtain ⟨s, x⟩ := p
      simp only [wantedA, St.app, E1 s (by simp [rdE, hag])]
  have hga : wantedA (st.app eb) a.guard = wantedA st a.guard := by
    cases hag : a.guard with
    | none => rfl
    | some p =>
      obtain ⟨s, x⟩ := p
      simp only [wantedA, St.app, E2 s (by simp [rdE, hag])]
  simp only [hh, Bool.false_eq_true, false_or, Bool.or_eq_true, Bool.and_eq_true] at hi
  have one : ∀ {c : AOp} {s : St} {e : Eff} {f : HK} {args : List Opd}, c.k = .h f args → does X c s e → (hf f (args.map s.ev) s.heap s.ctr).map (fun q => (⟨s.moves args ++ dstw c.dst q.1, [], q.2.2, some q.2.1⟩ : Eff)) = some e := fun {c s e f args} hk hd => by
    unfold does at hd
    rw [hk] at hd
    simp only at hd
    unfold eff at hd
    rw [hk] at hd
    exact hd
  have two : ∀ {c : AOp} {s : St} {e : Eff} {f : HK} {args : List Opd}, c.k = .h f args → (hf f (args.map s.ev) s.heap s.ctr).map (fun q => (⟨s.moves args ++ dstw c.dst q.1, [], q.2.2, some q.2.1⟩ : Eff)) = some e → does X c s e := fun {c s e f args} hk hd => by
    unfold does
    rw [hk]
    simp only
    unfold eff
    rw [hk]
    exact hd
  have rdk : ∀ {c : AOp} {f : HK} {args : List Opd}, c.k = .h f args → ∀ n ∈ slotsOf args, n ∈ rdE c := fun {c f args} hk n hn => by
    simp only [rdE, hk, argsOf]
    exact List.mem_append_right _ (List.mem_append_right _ hn)
  rcases hi with ⟨hta, hlb⟩ | ⟨hla, htb⟩
  · obtain ⟨xs, hka⟩ : ∃ xs, a.k = .h .takeH xs := by
      unfold tkA at hta
      split at hta
      · exact ⟨_, by assumption⟩
      · cases hta
    obtain ⟨m, ys, hkb⟩ : ∃ m ys, b.k = .h (.loadH m) ys := by
      unfold ldA at hlb
      split at hlb
      · exact ⟨_, _, by assumption⟩
      · cases hlb
    obtain ⟨v1, v2⟩ := evs_congr (st := st) (st' := st.app ea) (args := ys) fun n hn => E1 n (rdk hkb n hn)
    have h1 := one hka da
    have h2 := one hkb db
    rw [v1, v2] at h2
    obtain ⟨⟨c, g, k⟩, ht, he⟩ := Option.map_eq_some_iff.1 h1
    have hheap : (st.app ea).heap = g := by rw [← he]; rfl
    rw [hheap, hf_rd rfl _ _ (st.app ea).ctr st.ctr, take_load ht, Option.map_map] at h2
    obtain ⟨q, hq, he2⟩ := Option.map_eq_some_iff.1 h2
    obtain ⟨q1, q2⟩ := hf_rd2 (f := .loadH m) rfl hq
    have hb' : stepR X b st ⟨st.moves ys ++ dstw b.dst q.1, [], q.2.2, some q.2.1⟩ := .inl ⟨by rw [hgb]; exact gb, two hkb (by rw [hq]; rfl)⟩
    have heb : eb = ⟨st.moves ys ++ dstw b.dst q.1, [], q.2.2, some g⟩ := he2.symm
    subst heb
    have ha' : stepR X a (st.app ⟨st.moves ys ++ dstw b.dst q.1, [], q.2.2, some q.2.1⟩) ea := stepR_congr (.inl ⟨ga, da⟩) E2 L2 (fun _ => by simp only [St.app, q2, Nat.add_zero]) (fun _ => by simp only [St.app, q1, Option.getD_some])
    refine ⟨_, _, hb', ha', ?_⟩
    simp only [St.app, St.mk.injEq]
    refine ⟨cE, cL, ?_, by omega⟩
    rw [← he]
    rfl
  · obtain ⟨m, xs, hka⟩ : ∃ m xs, a.k = .h (.loadH m) xs := by
      unfold ldA at hla
      split at hla
      · exact ⟨_, _, by assumption⟩
      · cases hla
    obtain ⟨f, ys, hkb, hfl⟩ : ∃ f ys, b.k = .h f ys ∧ ∀ (us zs : List V) (h g : Heap) (n n' k : Nat) (c : V) (q : V × Heap × Nat), hf f us h n = some (c, g, k) → hf (.loadH m) zs h n' = some q → hf (.loadH m) zs g n' = some (q.1, g, q.2.2) := by
      rcases htb with htb | htb
      · unfold tkA at htb
        split at htb
        · rename_i ys hk
          exact ⟨_, ys, hk, fun us zs h g n n' k c q h1 h2 => by rw [take_load h1, h2]; rfl⟩
        · cases htb
      · unfold nwA at htb
        split at htb
        · rename_i z ys hk
          exact ⟨_, ys, hk, fun us zs h g n n' k c q h1 h2 => new_load h1 h2⟩
        · cases htb
    have h1 := one hka da
    obtain ⟨q, hq, he⟩ := Option.map_eq_some_iff.1 h1
    obtain ⟨q1, q2⟩ := hf_rd2 (f := .loadH m) rfl hq
    have hheap : (st.app ea).heap = st.heap := by rw [← he]; simp only [St.app, q1, Option.getD_some]
    have hctr : (st.app ea).ctr = st.ctr := by rw [← he]; simp only [St.app, q2, Nat.add_zero]
    have hb' : stepR X b st eb := stepR_congr (.inl ⟨gb, db⟩) (fun n hn => (E1 n hn).symm) (fun n hn => (L1 n hn).symm) (fun _ => hctr.symm) (fun _ => hheap.symm)
    have h2 := one hkb db
    obtain ⟨v1, v2⟩ := evs_congr (st := st) (st' := st.app ea) (args := ys) fun n hn => E1 n (rdk hkb n hn)
    rw [v1, v2, hheap, hctr] at h2
    obtain ⟨⟨c, g, k⟩, ht, he2⟩ := Option.map_eq_some_iff.1 h2
    have hheap2 : (st.app eb).heap = g := by rw [← he2]; rfl
    obtain ⟨w1, w2⟩ := evs_congr (st := st) (st' := st.app eb) (args := xs) fun n hn => E2 n (rdk hka n hn)
    have ha' : stepR X a (st.app eb) ⟨st.moves xs ++ dstw a.dst q.1, [], q.2.2, some g⟩ := .inl ⟨by rw [hga]; exact ga, two hka (by rw [w1, w2, hheap2, hf_rd rfl _ _ (st.app eb).ctr st.ctr, hfl _ _ _ _ _ _ _ _ _ ht hq]; rfl)⟩
    refine ⟨_, _, hb', ha', ?_⟩
    have hea : ea.e = st.moves xs ++ dstw a.dst q.1 ∧ ea.l = [] ∧ ea.c = q.2.2 := by rw [← he]; exact ⟨rfl, rfl, rfl⟩
    simp only [St.app, St.mk.injEq]
    rw [← hea.1, ← hea.2.1, ← hea.2.2]
    refine ⟨cE, cL, ?_, by omega⟩
    rw [← he2]
    rfl

inductive Chain (X : Sem3) : List AOp → St → St → Prop where
  | nil (st : St) : Chain X [] st st
  | cons {a : AOp} {r : List AOp} {st st' : St} {e : Eff} (h : stepR X a st e) (t : Chain X r (st.app e) st') : Chain X (a :: r) st st'

theorem chain_front : ∀ (xs : List AOp) {b : AOp} {ys : List AOp} {st st' : St}, Chain X (xs ++ b :: ys) st st' → (∀ a ∈ xs, indep a b = true) → ∃ e, stepR X b st e ∧ Chain X (xs ++ ys) (st.app e) st'
  | [], b, ys, st, st', h, _ => by cases h with | cons h t => exact ⟨_, h, t⟩
  | a :: xs, b, ys, st, st', h, hi => by
    cases h with
    | cons ha t =>
      obtain ⟨eb, hb, t'⟩ := chain_front xs t fun c hc => hi c (by simp [hc])
      obtain ⟨ea', eb', h1, h2, h3⟩ := swap ha hb (hi a (by simp))
      exact ⟨eb', h1, .cons h2 (by rw [← h3]; exact t')⟩

theorem chain_of_wpLD : ∀ {al : List AOp} {K : St → Prop} {st : St}, wpLD X al K st → ∃ st', Chain X al st st' ∧ K st'
  | [], K, st, h => ⟨st, .nil st, h⟩
  | a :: al, K, st, h => by
    simp only [wpLD] at h
    cases hg : wantedA st a.guard with
    | none => rw [hg] at h; exact h.elim
    | some b =>
      rw [hg] at h
      simp only [W] at h
      cases b with
      | false =>
        rw [if_neg (by simp)] at h
        obtain ⟨st', h1, h2⟩ := chain_of_wpLD h
        exact ⟨st', .cons (.inr ⟨hg, rfl⟩) h1, h2⟩
      | true =>
        rw [if_pos rfl] at h
        unfold wpOD at h
        have fin : ∀ e, does X a st e → wpLD X al K (st.app e) → ∃ st', Chain X (a :: al) st st' ∧ K st' := fun e hd hn => by
          obtain ⟨st', h1, h2⟩ := chain_of_wpLD hn
          exact ⟨st', .cons (.inl ⟨hg, hd⟩) h1, h2⟩
        cases hk : a.k <;> rw [hk] at h <;> simp only at h
        case call f v args =>
          obtain ⟨h0, r, Q0, h1, h2, h3, h4⟩ := h
          exact fin _ (by unfold does; rw [hk]; exact ⟨h0, r, Q0, h1, h2, h3, rfl⟩) h4
        case callH v x args =>
          cases hx : st.ev x <;> rw [hx] at h <;> simp only at h
          obtain ⟨r, hp, n, Q0, h1, h2, h3⟩ := h
          exact fin _ (by unfold does; rw [hk]; simp only [hx]; exact ⟨r, hp, n, Q0, h1, h2, rfl⟩) h3
        all_goals
          cases he : eff a st with
          | none => rw [he] at h; exact h.elim
          | some e =>
            rw [he] at h
            exact fin e (by unfold does; rw [hk]; exact he) h

end
end Go.Proofs.Ytnodepfoahmcmaa.E

/- The engine, part AA: a region whose order Go leaves open. Conditions: none. -/
namespace Go.Proofs.Ytnodepfoahmcmaa.E
set_option linter.unusedVariables false
set_option linter.unusedSimpArgs false

/-- What must come before, directly and through others. -/
def stepM (acc : List Nat) (o : Oper) : Nat := o.after.toList.foldl (fun s e => if Region.binds .any e = true then s ||| (2 ^ e.on ||| acc.getD e.on 0) else s) 0
def masks : List Oper → List Nat → List Nat
  | [], acc => acc
  | o :: r, acc => masks r (acc ++ [stepM acc o])

theorem foldl_test (acc : List Nat) (j : Nat) : ∀ (l : List Edge) (s : Nat), (l.foldl (fun s e => if Region.binds .any e = true then s ||| (2 ^ e.on ||| acc.getD e.on 0) else s) s).testBit j = true →
    s.testBit j = true ∨ ∃ e ∈ l, Region.binds .any e = true ∧ (e.on = j ∨ (acc.getD e.on 0).testBit j = true)
  | [], s, h => .inl h
  | e :: l, s, h => by
    rw [List.foldl_cons] at h
    rcases foldl_test acc j l _ h with h | ⟨e', he', h⟩
    · split at h
      · rename_i hb
        rw [Nat.testBit_or, Bool.or_eq_true, Nat.testBit_or, Bool.or_eq_true] at h
        rcases h with h | h | h
        · exact .inl h
        · refine .inr ⟨e, by simp, hb, .inl ?_⟩
          rw [Nat.testBit_two_pow] at h
          simpa using h
        · exact .inr ⟨e, by simp, hb, .inr h⟩
      · exact .inl h
    · exact .inr ⟨e', by simp [he'], h⟩

theorem masks_prefix : ∀ (l : List Oper) (acc : List Nat), acc <+: masks l acc
  | [], acc => List.prefix_refl _
  | o :: r, acc => List.IsPrefix.trans (List.prefix_append _ _) (masks_prefix r (acc ++ [stepM acc o]))
theorem masks_get : ∀ (l : List Oper) (acc : List Nat) (k : Nat) (o : Oper), l[k]? = some o → ∃ pre : List Nat, pre.length = acc.length + k ∧ pre <+: masks l acc ∧ (masks l acc)[acc.length + k]? = some (stepM pre o)
  | [], acc, k, o, h => by simp at h
  | p :: r, acc, 0, o, h => by
    simp at h
    subst h
    refine ⟨acc, rfl, masks_prefix _ _, ?_⟩
    have := masks_prefix r (acc ++ [stepM acc p])
    obtain ⟨t, ht⟩ := this
    simp only [masks]
    rw [← ht]
    simp
  | p :: r, acc, k + 1, o, h => by
    obtain ⟨pre, h1, h2, h3⟩ := masks_get r (acc ++ [stepM acc p]) k o (by simpa using h)
    refine ⟨pre, by rw [h1]; simp; omega, h2, ?_⟩
    simp only [masks]
    rw [← h3]
    congr 1
    simp; omega

section
variable {P : Program} {X : Sem3}

/-- What must come before is listed, wherever an operation may come next. -/
theorem mask_listed {ops : Array Oper} {S : Nat → Prop} (hback : ∀ (i : Nat) (o : Oper), ops[i]? = some o → ∀ e ∈ o.after, Region.binds .any e = true → e.on < i) (hclosed : ∀ (i : Nat) (o : Oper), ops[i]? = some o → S i → ∀ e ∈ o.after, Region.binds .any e = true → S e.on) :
    ∀ (i : Nat) (o : Oper), ops[i]? = some o → (∀ e ∈ o.after, Region.binds .any e = true → S e.on) → ∀ j, ((masks ops.toList []).getD i 0).testBit j = true → S j := by
  intro i
  induction i using Nat.strongRecOn with
  | _ i ih =>
    intro o ho hS j hj
    obtain ⟨pre, h1, h2, h3⟩ := masks_get ops.toList [] i o (by rw [Array.getElem?_toList]; exact ho)
    simp only [List.length_nil, Nat.zero_add] at h1 h3
    rw [List.getD_eq_getElem?_getD, h3, Option.getD_some] at hj
    rcases foldl_test pre j _ 0 hj with h | ⟨e, he, hb, h⟩
    · simp at h
    · have he' : e ∈ o.after := by simpa using he
      have hlt := hback i o ho e he' hb
      rcases h with rfl | h
      · exact hS e he' hb
      · obtain ⟨o', ho'⟩ : ∃ o', ops[e.on]? = some o' := by
          have : i < ops.size := (Array.getElem?_eq_some_iff.1 ho).1
          exact ⟨ops[e.on], Array.getElem?_eq_getElem (by omega)⟩
        refine ih e.on hlt o' ho' (hclosed _ o' ho' (hS e he' hb)) j ?_
        obtain ⟨t, ht⟩ := h2
        rw [← ht, List.getD_eq_getElem?_getD, List.getElem?_append_left (by omega), ← List.getD_eq_getElem?_getD]
        exact h

def backB (ops : Array Oper) : Bool := (List.range ops.size).all fun i => match ops[i]? with | some o => o.after.all fun e => !Region.binds .any e || decide (e.on < i) | none => true
def junkOp : AOp := ⟨none, none, .p .mv []⟩
def pairsB (M : List Nat) (al : List AOp) : Bool := (List.range al.length).all fun i => (List.range i).all fun j => (M.getD i 0).testBit j || indep (al.getD j junkOp) (al.getD i junkOp)
def okDraw (ops : Array Oper) (al : List AOp) : Bool := backB ops && pairsB (masks ops.toList []) al

theorem okOps_get {nt : Nat} {ops : Array Oper} : ∀ (l : List Oper) (al : List AOp), okOps P nt ops l al = true → l.length = al.length ∧ ∀ (i : Nat) (o : Oper), l[i]? = some o → okOp P nt ops o (al.getD i junkOp) = true
  | [], [], _ => ⟨rfl, fun i o h => by simp at h⟩
  | [], _ :: _, h => by simp [okOps] at h
  | _ :: _, [], h => by simp [okOps] at h
  | o :: l, a :: al, h => by
    simp only [okOps, Bool.and_eq_true] at h
    obtain ⟨h1, h2⟩ := okOps_get l al h.2
    refine ⟨by simp [h1], fun i o' ho => ?_⟩
    cases i with
    | zero => simp at ho; subst ho; simpa using h.1
    | succ i => simpa using h2 i o' (by simpa using ho)

/-- One step in the machine. -/
theorem stepR_goes {w : World} {G : Nat → Nat} {φ : Nat → Option Nat} {st : St} {act : Act} {ops : Array Oper} {o : Oper} {a : AOp} {nt i : Nat} {e : Eff} {next : Act → World → Prop} {Q : Exit → Act → World → Prop} (hi : ops[i]? = some o) (hk : okOp P nt ops o a = true) (hs : stepR (XS P) a st e) (h : Inv w G φ st act.tmps) (hn : act.tmps.size = nt)
    (hnext : ∀ act' w' G' φ', Inv w' G' φ' (st.app e) act'.tmps → act'.tmps.size = nt → act'.defers = act.defers → Goes w G φ st act.tmps w' G' φ' (st.app e) act'.tmps → next act' w') : wpOp P ops Q i next act w := by
  have hk0 := hk
  unfold okOp at hk0
  simp only [Bool.and_eq_true] at hk0
  obtain ⟨⟨⟨k1, k2⟩, k3⟩, k4⟩ := hk0
  have hd : o.dst = a.dst := by simpa using k1
  unfold wpOp
  rw [hi]
  simp only
  rcases hs with ⟨hg, hd'⟩ | ⟨hg, rfl⟩
  · rw [guard_ok k3 hg h, if_pos rfl]
    left
    have : OpGoes P o w G φ st act nt (fun st' => st' = st.app e) := by
      unfold does at hd'
      cases hak : a.k <;> rw [hak] at hd' <;> simp only at hd'
      case call f v args =>
        obtain ⟨h0, r, Q0, q1, q2, q3, rfl⟩ := hd'
        exact goes_call hk hak h0 q1 (fun r' hp n hq => by have := q2 r' hp n hq; subst this; exact ⟨q3, rfl⟩) h hn
      case callH v x args =>
        cases hx : st.ev x <;> rw [hx] at hd' <;> simp only at hd'
        obtain ⟨r, hp, n, Q0, q1, q2, rfl⟩ := hd'
        exact goes_callH hk hak hx q1 (fun r' hp' n' hq => by obtain ⟨rfl, rfl, rfl⟩ := q2 r' hp' n' hq; rfl) h hn
      all_goals exact goes_eff hk hd' h hn rfl
    exact this _ _ fun st' act' w' G' φ' hp b1 b2 b3 b4 => by subst hp; exact hnext act' w' G' φ' b1 b2 b3 b4
  · rw [guard_ok k3 hg h, if_neg (by simp)]
    obtain ⟨s1, s2, s3, s4⟩ := skip_ok hd k2 h hn
    exact hnext _ _ _ _ s1 s2 s3 s4

theorem draw_ok {ops : Array Oper} {al : List AOp} {nt : Nat} {K : St → Prop} {Q : Exit → Act → World → Prop} (hops : okOps P nt ops ops.toList al = true) (hdr : okDraw ops al = true) {stF : St} (hK : K stF) :
    ∀ (fuel : Nat) (rem : List Nat) (listed : Array Bool) {st : St} {act : Act} {w : World} {G : Nat → Nat} {φ : Nat → Option Nat}, rem.length = fuel → rem.Pairwise (· < ·) → (∀ i ∈ rem, i < ops.size) → listed.size = ops.size → (∀ i, i < ops.size → (listed.getD i false = true ↔ i ∉ rem)) →
      (∀ (i : Nat) (o : Oper), ops[i]? = some o → i ∉ rem → ∀ e ∈ o.after, Region.binds .any e = true → e.on ∉ rem) → Chain (XS P) (rem.map fun i => al.getD i junkOp) st stF → Inv w G φ st act.tmps → act.tmps.size = nt →
      (∀ act' w' G' φ', Inv w' G' φ' stF act'.tmps → act'.tmps.size = nt → act'.defers = act.defers → Goes w G φ st act.tmps w' G' φ' stF act'.tmps → Q .normal act' w') → wpAny P .any ops Q fuel listed act w := by
  obtain ⟨hlen, hget⟩ := okOps_get _ _ hops
  unfold okDraw at hdr
  rw [Bool.and_eq_true] at hdr
  obtain ⟨hback, hpairs⟩ := hdr
  have hb : ∀ (i : Nat) (o : Oper), ops[i]? = some o → ∀ e ∈ o.after, Region.binds .any e = true → e.on < i := fun i o ho e he hbd => by
    have hi : i < ops.size := (Array.getElem?_eq_some_iff.1 ho).1
    have := List.all_eq_true.1 hback i (List.mem_range.2 hi)
    rw [ho] at this
    simp only [Array.all_eq_true_iff_forall_mem] at this
    have := this e he
    simpa [hbd] using this
  intro fuel
  induction fuel with
  | zero =>
    intro rem listed st act w G φ hl hp hlt hsz hls hcl hch h hn hQ
    obtain rfl : rem = [] := List.eq_nil_of_length_eq_zero hl
    cases hch
    refine ⟨?_, hQ act w G φ h hn rfl (Goes.refl _ _ _ _ _)⟩
    apply List.eq_nil_iff_forall_not_mem.2
    intro i hi
    obtain ⟨h0, o, ho, _⟩ := mem_ready.1 hi
    have hi' : i < ops.size := (Array.getElem?_eq_some_iff.1 ho).1
    have := (hls i hi').2 (by simp)
    have e : listed.getD i true = listed.getD i false := by simp [Array.getD, hsz, hi']
    rw [e, this] at h0
    cases h0
  | succ fuel ih =>
    intro rem listed st act w G φ hl hp hlt hsz hls hcl hch h hn hQ
    have hunl : ∀ i, i < ops.size → (listed.getD i true = false ↔ i ∈ rem) := fun i hi => by
      have e : listed.getD i true = listed.getD i false := by simp [Array.getD, hsz, hi]
      rw [e]
      have := hls i hi
      cases hv : listed.getD i false <;> rw [hv] at this <;> simp at this ⊢ <;> exact this
    refine ⟨fun hr => ?_, fun i hi => ?_⟩
    · -- the least that is left may come next
      exfalso
      cases rem with
      | nil => simp at hl
      | cons i0 r =>
        have hi0 : i0 < ops.size := hlt i0 (by simp)
        have : i0 ∈ Region.ready .any ops listed := by
          refine mem_ready.2 ⟨(hunl i0 hi0).2 (by simp), ops[i0], Array.getElem?_eq_getElem hi0, fun e he hbd => ?_⟩
          have hlt' := hb i0 _ (Array.getElem?_eq_getElem hi0) e he hbd
          refine (hls e.on (by omega)).2 fun hm => ?_
          rcases List.mem_cons.1 hm with e1 | hm
          · omega
          · have := (List.pairwise_cons.1 hp).1 _ hm; omega
        rw [hr] at this
        cases this
    · obtain ⟨h0, o, ho, hed⟩ := mem_ready.1 hi
      have hi' : i < ops.size := (Array.getElem?_eq_some_iff.1 ho).1
      have hir : i ∈ rem := (hunl i hi').1 h0
      obtain ⟨xs, ys, rfl⟩ := List.append_of_mem hir
      have hind : ∀ a ∈ xs.map (fun i => al.getD i junkOp), indep a (al.getD i junkOp) = true := fun a ha => by
        obtain ⟨j, hj, rfl⟩ := List.mem_map.1 ha
        have hji : j < i := (List.pairwise_append.1 hp).2.2 j hj i (by simp)
        have hp2 := List.all_eq_true.1 hpairs i (List.mem_range.2 (by rw [← hlen, Array.length_toList]; exact hi'))
        have hp3 := List.all_eq_true.1 hp2 j (List.mem_range.2 hji)
        rw [Bool.or_eq_true] at hp3
        refine hp3.resolve_left fun hm => ?_
        have := mask_listed (S := fun k => k ∉ xs ++ i :: ys) hb (fun k o' ho' hk => hcl k o' ho' hk) i o ho (fun e he hbd => (hls e.on (by have := hb i o ho e he hbd; omega)).1 (hed e he hbd)) j hm
        exact this (by simp [hj])
      rw [List.map_append, List.map_cons] at hch
      obtain ⟨e, hs, hch'⟩ := chain_front _ hch hind
      refine stepR_goes ho (hget i o (by rw [Array.getElem?_toList]; exact ho)) hs h hn fun act' w' G' φ' b1 b2 b3 b4 => ?_
      have hsub : (xs ++ ys).Sublist (xs ++ i :: ys) := List.Sublist.append (List.Sublist.refl _) (List.sublist_cons_self _ _)
      have hni : i ∉ xs ++ ys := fun hm => by
        rcases List.mem_append.1 hm with hm | hm
        · have := (List.pairwise_append.1 hp).2.2 i hm i (by simp); omega
        · have := (List.pairwise_cons.1 (List.pairwise_append.1 hp).2.1).1 i hm; omega
      have hmem : ∀ k, k ≠ i → (k ∈ xs ++ ys ↔ k ∈ xs ++ i :: ys) := fun k hk => by simp [hk]
      refine ih (xs ++ ys) (listed.setIfInBounds i true) (by simp at hl ⊢; omega) (hp.sublist hsub) (fun k hk => hlt k (hsub.subset hk)) (by rw [Array.size_setIfInBounds]; exact hsz) (fun k hk => ?_) (fun k o' ho' hk e' he' hbd => ?_) (by rw [List.map_append]; exact hch') b1 b2 fun act2 w2 G2 φ2 c1 c2 c3 c4 => hQ act2 w2 G2 φ2 c1 c2 (c3.trans b3) (b4.trans c4)
      · by_cases e1 : k = i
        · subst e1
          simp only [hni, not_false_eq_true, iff_true]
          simp [Array.getD, hsz, hk]
        · rw [hmem k e1, ← hls k hk]
          simp only [Array.getD, Array.size_setIfInBounds]
          split
          · simp only [Array.getInternal_eq_getElem]
            rw [Array.getElem_setIfInBounds_ne _ (fun e => e1 e.symm)]
          · rfl
      · by_cases e1 : k = i
        · subst e1
          rw [ho] at ho'
          injection ho' with ho'
          subst ho'
          have hlt2 := hb k o ho e' he' hbd
          have := (hls e'.on (by omega)).1 (hed e' he' hbd)
          exact fun hm => this (hsub.subset hm)
        · have := hcl k o' ho' (fun hm => hk ((hmem k e1).2 hm)) e' he' hbd
          exact fun hm => this (hsub.subset hm)

end
end Go.Proofs.Ytnodepfoahmcmaa.E

/- The engine, part AB: code. Conditions: none. -/
namespace Go.Proofs.Ytnodepfoahmcmaa.E
set_option linter.unusedVariables false
set_option linter.unusedSimpArgs false

def okAC (P : Program) (nt : Nat) : AC → Code → Bool
  | .skip, .skip => true
  | .reg d ops, .region _ os dr => (d == dr) && okOps P nt os os.toList ops && (!dr || (P.follows .mixedOrders && okDraw os ops))
  | .seq a b, .seq x y => okAC P nt a x && okAC P nt b y
  | .cut _ _ a, c => okAC P nt a c
  | .cond c x y, .cond k a b => okOpd k c && okAC P nt x a && okAC P nt y b
  | .block i c, .block j d => (i == j) && okAC P nt c d
  | .loop _ _ c, .loop d => okAC P nt c d
  | .exit i, .exit j => i == j
  | .ret, .ret => true
  | _, _ => false

def AE.out : AE → Exit
  | .normal => .normal
  | .exit i => .exit i
  | .ret => .ret

/-- The machine at the start of a round. -/
def LP (P : Program) (c : Code) (Q : Exit → Act → World → Prop) (a : Act) (w : World) : Prop :=
  ∀ (b : Frame) (k : List Item) (cs : List Frame), ∃ e a' w', Q e a' w' ∧ Arrives P (lone (b.at a (.code c :: .inLoop c :: k)) cs w) b k cs e a' w'
theorem LP.intro {P : Program} {c : Code} {Q : Exit → Act → World → Prop} {a : Act} {w : World} (h : LP P c Q a w) : (Code.loop c).wp P Q a w := fun b k cs =>
  let ⟨e, a', w', hq, harr⟩ := h b k cs
  ⟨e, a', w', hq, .of_steps (.one step_loop) harr⟩
theorem LP.round {P : Program} {c : Code} {Q : Exit → Act → World → Prop} {a : Act} {w : World} (h : c.wp P (Exit.then (LP P c Q) Q) a w) : LP P c Q a w := by
  intro b k cs
  obtain ⟨e, a₁, w₁, hq, harr⟩ := h b (.inLoop c :: k) cs
  cases e with
  | normal =>
    obtain ⟨e₂, a₂, w₂, hq₂, harr₂⟩ := hq b k cs
    exact ⟨e₂, a₂, w₂, hq₂, .of_steps (Steps.trans harr (.one step_inLoop)) harr₂⟩
  | exit id => exact ⟨_, a₁, w₁, hq, .pass (x := .inLoop c) rfl (fun _ _ => .inl (by simp)) harr⟩
  | goto l => exact ⟨_, a₁, w₁, hq, .pass (x := .inLoop c) rfl (fun _ _ => .inl (by simp)) harr⟩
  | ret => exact ⟨_, a₁, w₁, hq, .pass (x := .inLoop c) rfl (fun _ _ => .inl (by simp)) harr⟩
  | panic ch => exact ⟨_, a₁, w₁, hq, .pass (x := .inLoop c) rfl (fun _ _ => .inl (by simp)) harr⟩
  | outgrown => exact ⟨_, a₁, w₁, hq, .pass (x := .inLoop c) rfl (fun _ _ => .inl (by simp)) harr⟩

section
variable {P : Program}

theorem norm_ok {w : World} {G : Nat → Nat} {φ : Nat → Option Nat} {st : St} {ts : Array Value} (h : Inv w G φ st ts) (ke kl : List Nat) : Inv w G φ (st.norm ke kl) ts ∧ Goes w G φ st ts w G φ (st.norm ke kl) ts := by
  obtain ⟨h1, h2⟩ := h.drop (env := keep ke st.env) (loc := keep kl st.loc) (heap := st.heap) List.filter_sublist List.filter_sublist (List.Sublist.refl _)
  exact ⟨h1, Goes.less h2 rfl⟩

/-- A draw is made: memory stays as it is. -/
theorem drawn_ok {w w' : World} (hh : w'.heap = w.heap) (ho : w'.os = w.os) (ht : w'.tape = w.tape) (hu : w'.output = w.output) {G : Nat → Nat} {φ : Nat → Option Nat} {st : St} {ts : Array Value} (h : Inv w G φ st ts) : Inv w' G φ st ts ∧ Goes w G φ st ts w' G φ st ts := by
  have he : Ext w G w' G := ⟨fun _ => Nat.le_refl _, fun b o _ => by simp [World.cell?, hh], fun b cs el fr hb => ⟨cs, fr, by rw [hh]; exact hb, rfl, .inl rfl⟩, by rw [hh]; exact Nat.le_refl _, ho, ht, hu⟩
  have hi := h.ext he (fun _ _ h => h) st.ctr h.ctr (fun b _ => ⟨by rw [hh], rfl⟩) (fun b hb => h.zero b (by rw [hh] at hb; exact hb))
  exact ⟨hi, he, fun _ _ h => h, fun b hb hc => ⟨by rw [hh], rfl, by rw [cnt_congr h (fun _ _ h => h) fun b _ => by rw [hh]]; exact hc⟩, Nat.le_refl _⟩

theorem wpC_ok : ∀ (a : AC) {c : Code} {nt : Nat} {w : World} {G : Nat → Nat} {φ : Nat → Option Nat} {st : St} {act : Act} {Q : AE → St → Prop} {M : Exit → Act → World → Prop}, okAC P nt a c = true → wpC (XS P) a Q st → Inv w G φ st act.tmps → act.tmps.size = nt →
    (∀ e st' act' w' G' φ', Q e st' → Inv w' G' φ' st' act'.tmps → act'.tmps.size = nt → act'.defers = act.defers → Goes w G φ st act.tmps w' G' φ' st' act'.tmps → M e.out act' w') → c.wp P M act w
  | .skip, c, nt, w, G, φ, st, act, Q, M, hk, hw, h, hn, hM => by
    cases c <;> first | (cases hk; done) | skip
    exact wp_skip (hM .normal st act w G φ hw h hn rfl (Goes.refl _ _ _ _ _))
  | .exit i, c, nt, w, G, φ, st, act, Q, M, hk, hw, h, hn, hM => by
    cases c <;> first | (cases hk; done) | skip
    have := beq_iff_eq.1 hk
    subst this
    exact wp_exit (hM (.exit i) st act w G φ hw h hn rfl (Goes.refl _ _ _ _ _))
  | .ret, c, nt, w, G, φ, st, act, Q, M, hk, hw, h, hn, hM => by
    cases c <;> first | (cases hk; done) | skip
    exact wp_ret (hM .ret st act w G φ hw h hn rfl (Goes.refl _ _ _ _ _))
  | .cut ke kl a, c, nt, w, G, φ, st, act, Q, M, hk, hw, h, hn, hM => by
    simp only [wpC] at hw
    refine wpC_ok a (by simpa only [okAC] using hk) hw h hn fun e st' act' w' G' φ' hq b1 b2 b3 b4 => ?_
    cases e with
    | normal =>
      obtain ⟨n1, n2⟩ := norm_ok b1 ke kl
      exact hM .normal _ act' w' G' φ' hq n1 b2 b3 (b4.trans n2)
    | exit i => exact hM (.exit i) st' act' w' G' φ' hq b1 b2 b3 b4
    | ret => exact hM .ret st' act' w' G' φ' hq b1 b2 b3 b4
  | .seq a b, c, nt, w, G, φ, st, act, Q, M, hk, hw, h, hn, hM => by
    cases c <;> first | (cases hk; done) | skip
    simp only [okAC, Bool.and_eq_true] at hk
    simp only [wpC] at hw
    refine wp_seq (wpC_ok a hk.1 hw h hn fun e st' act' w' G' φ' hq b1 b2 b3 b4 => ?_)
    cases e with
    | normal => exact wpC_ok b hk.2 hq b1 b2 fun e st2 act2 w2 G2 φ2 hq2 c1 c2 c3 c4 => hM e st2 act2 w2 G2 φ2 hq2 c1 c2 (c3.trans b3) (b4.trans c4)
    | exit i => exact hM (.exit i) st' act' w' G' φ' hq b1 b2 b3 b4
    | ret => exact hM .ret st' act' w' G' φ' hq b1 b2 b3 b4
  | .cond x a b, c, nt, w, G, φ, st, act, Q, M, hk, hw, h, hn, hM => by
    cases c <;> first | (cases hk; done) | skip
    rename_i k ca cb
    simp only [okAC, Bool.and_eq_true] at hk
    simp only [wpC] at hw
    have hev := (ev_R h (okOpd_ok hk.1.1)).1
    cases hb : st.ev x <;> rw [hb] at hw hev <;> first | exact hw.elim | skip
    rename_i t
    simp only at hw
    generalize hu : act.eval k = u at hev
    cases hev
    refine wp_cond (t := t) hu ?_
    cases t with
    | true => exact wpC_ok a hk.1.2 (by simpa using hw) h hn hM
    | false => exact wpC_ok b hk.2 (by simpa using hw) h hn hM
  | .block i a, c, nt, w, G, φ, st, act, Q, M, hk, hw, h, hn, hM => by
    cases c <;> first | (cases hk; done) | skip
    rename_i j cb
    simp only [okAC, Bool.and_eq_true, beq_iff_eq] at hk
    obtain ⟨rfl, hk⟩ := hk
    simp only [wpC] at hw
    refine wp_block (wpC_ok a hk hw h hn fun e st' act' w' G' φ' hq b1 b2 b3 b4 => ?_)
    cases e with
    | normal => exact hM .normal st' act' w' G' φ' hq b1 b2 b3 b4
    | exit k =>
      simp only [AE.out, Exit.inBlock]
      simp only at hq
      by_cases hki : k = i
      · rw [if_pos hki] at hq ⊢
        exact hM .normal st' act' w' G' φ' hq b1 b2 b3 b4
      · rw [if_neg hki] at hq ⊢
        exact hM (.exit k) st' act' w' G' φ' hq b1 b2 b3 b4
    | ret => exact hM .ret st' act' w' G' φ' hq b1 b2 b3 b4
  | .loop ke kl a, c, nt, w, G, φ, st, act, Q, M, hk, hw, h, hn, hM => by
    cases c <;> first | (cases hk; done) | skip
    rename_i cb
    simp only [okAC] at hk
    simp only [wpC] at hw
    refine LP.intro (hw (fun st1 => ∀ act1 w1 G1 φ1, Inv w1 G1 φ1 st1 act1.tmps → act1.tmps.size = nt → act1.defers = act.defers → Goes w G φ st act.tmps w1 G1 φ1 st1 act1.tmps → LP P cb M act1 w1)
      (fun st1 hst1 act1 w1 G1 φ1 a1 a2 a3 a4 => LP.round (wpC_ok a hk hst1 a1 a2 fun e st' act' w' G' φ' hq b1 b2 b3 b4 => ?_)) act w G φ (norm_ok h ke kl).1 hn rfl (norm_ok h ke kl).2)
    cases e with
    | normal =>
      obtain ⟨n1, n2⟩ := norm_ok b1 ke kl
      exact hq act' w' G' φ' n1 b2 (b3.trans a3) ((a4.trans b4).trans n2)
    | exit i => exact hM (.exit i) st' act' w' G' φ' hq b1 b2 (b3.trans a3) (a4.trans b4)
    | ret => exact hM .ret st' act' w' G' φ' hq b1 b2 (b3.trans a3) (a4.trans b4)
  | .reg d ops, c, nt, w, G, φ, st, act, Q, M, hk, hw, h, hn, hM => by
    cases c <;> first | (cases hk; done) | skip
    rename_i id os dr
    simp only [okAC, Bool.and_eq_true, beq_iff_eq, Bool.or_eq_true, Bool.not_eq_true'] at hk
    obtain ⟨⟨rfl, hk1⟩, hk2⟩ := hk
    simp only [wpC] at hw
    cases d with
    | false =>
      rw [if_neg (by simp)] at hw
      exact wp_region_list (wpL_ok _ ops hk1 hw h hn fun st' act' w' G' φ' hq b1 b2 b3 b4 => hM .normal st' act' w' G' φ' hq b1 b2 b3 b4)
    | true =>
      rw [if_pos rfl] at hw
      obtain ⟨hf, hd⟩ := hk2.resolve_left (by simp)
      obtain ⟨stF, hch, hQ⟩ := chain_of_wpLD hw
      obtain ⟨d1, d2⟩ := drawn_ok (w := w) (w' := { w with drawn := w.drawn + 1 }) rfl rfl rfl rfl h
      have hlen := (okOps_get _ _ hk1).1
      rw [Array.length_toList] at hlen
      refine wp_region_any hf (draw_ok hk1 hd (K := Q .normal) hQ os.size (List.range os.size) _ (by simp) List.pairwise_lt_range (fun i hi => List.mem_range.1 hi) (by simp) (fun i hi => by simp [Array.getD, hi]) (fun i o ho hi => absurd (List.mem_range.2 (Array.getElem?_eq_some_iff.1 ho).1) hi) ?_ d1 hn
        fun act' w' G' φ' b1 b2 b3 b4 => hM .normal stF act' w' G' φ' hQ b1 b2 b3 (d2.trans b4))
      have : (List.range os.size).map (fun i => ops.getD i junkOp) = ops := by
        apply List.ext_getElem
        · simp [hlen]
        · intro i h1 h2
          simp [List.getD_eq_getElem?_getD, h2]
      rw [this]
      exact hch

end
end Go.Proofs.Ytnodepfoahmcmaa.E

/- The engine, part AC: functions, and the whole. Conditions: none. -/
namespace Go.Proofs.Ytnodepfoahmcmaa.E
set_option linter.unusedVariables false
set_option linter.unusedSimpArgs false

def okResV (P : Program) : ResultVar → ARes → Bool
  | .tmp t, .t n => t == n
  | .cell a t, .cell n _ k => a == n && aggIs P t k
  | _, _ => false
def okRes (P : Program) : List ResultVar → List ARes → Bool
  | [], [] => true
  | r :: rs, a :: as => okResV P r a && okRes P rs as
  | _, _ => false
def apart : ARes → ARes → Bool
  | .t n, .t m => n != m
  | .t n, .cell m _ _ => n != m
  | .cell _ _ _, _ => true
def apartL : List ARes → Bool
  | [] => true
  | r :: rs => rs.all (apart r) && apartL rs
def okFun (P : Program) (f : Nat) (F : AFun) : Bool := match P.funcs[f]? with
  | some fn => fn.name != "runtime.NumGoroutine" && (match fn.body with | some c => okAC P fn.ntmps F.code c && decide (F.np ≤ fn.ntmps) && okRes P fn.results.toList F.res && apartL F.res | none => false)
  | none => false

section
variable {P : Program} {w : World} {G : Nat → Nat} {φ : Nat → Option Nat} {ts : Array Value}

theorem get_del_ne {α : Type} : ∀ (l : List (Nat × α)) {k j : Nat}, j ≠ k → get (del l k) j = get l j
  | [], k, j, h => rfl
  | (a, z) :: r, k, j, h => by
    have ih := get_del_ne r h
    simp only [del]
    split
    · rename_i e; subst e; rw [get, if_neg h]
    · rw [get, get, ih]

/-- A slot is left. -/
theorem Inv.dropSlot {st : St} (h : Inv w G φ st ts) {n : Nat} {x : V} (hx : get st.env n = some x) : Inv w G φ { st with env := del st.env n } ts ∧ ∀ q, E.cnt w φ { st with env := del st.env n } ts q + tk x (ts.getD n undef) q = E.cnt w φ st ts q := by
  refine ⟨(h.drop (del_sublist _ _) (List.Sublist.refl _) (List.Sublist.refl _)).1, fun q => ?_⟩
  have := sum_del (fun p : Nat × V => tk p.2 (ts.getD p.1 undef) q) hx
  unfold E.cnt envTk
  have e : E.live { st with env := del st.env n } = E.live st := rfl
  rw [e]
  dsimp only at this ⊢
  omega

theorem resL_congr {st st' : St} : ∀ {rs : List ARes}, (∀ r ∈ rs, resV st' r = resV st r) → resL st' rs = resL st rs
  | [], _ => rfl
  | r :: rs, h => by
    simp only [resL]
    rw [h r (by simp), resL_congr fun q hq => h q (by simp [hq])]

/-- One result read by the machine. -/
def rd1 (ts : Array Value) : ResultVar → Sem Value
  | .tmp t => pure (ts.getD t undef)
  | .cell a t => do loadVar t (← asAddr (ts.getD a undef))

theorem resL_ok : ∀ {rv : List ResultVar} {rs : List ARes} {st : St} {ys : List V}, okRes P rv rs = true → apartL rs = true → resL st rs = some ys → Inv w G φ st ts →
    ∃ vs : List Value, (rv.mapM (rd1 ts)).run P w = .ok vs w ∧ All2 (fun y v => R w G φ y v ∧ Tail w G y v) ys vs ∧ ∀ b, vtk ys vs b + cntH w φ st.heap b ≤ E.cnt w φ st ts b
  | [], [], st, ys, _, _, hy, h => by
    simp only [resL, Option.some.injEq] at hy
    subst hy
    refine ⟨[], rfl, .nil, fun b => ?_⟩
    simp only [vtk, List.zip_nil_left, List.map_nil, List.sum_nil, E.cnt]
    have : cntH w φ st.heap b ≤ cntH w φ (E.live st) b := sum_sublist _ (List.sublist_append_right _ _)
    omega
  | [], _ :: _, st, ys, hk, _, _, h => by simp [okRes] at hk
  | _ :: _, [], st, ys, hk, _, _, h => by simp [okRes] at hk
  | rv :: rvs, r :: rs, st, ys, hk, ha, hy, h => by
    simp only [okRes, Bool.and_eq_true] at hk
    simp only [apartL, Bool.and_eq_true, List.all_eq_true] at ha
    simp only [resL] at hy
    obtain ⟨y, hy1, hy⟩ := Option.bind_eq_some_iff.1 hy
    obtain ⟨ys', hy2, rfl⟩ := Option.map_eq_some_iff.1 hy
    have fin : ∀ (st1 : St) (v : Value), resL st1 rs = some ys' → Inv w G φ st1 ts → st1.heap = st.heap → (rd1 ts rv).run P w = .ok v w → R w G φ y v → Tail w G y v → (∀ b, E.cnt w φ st1 ts b + tk y v b ≤ E.cnt w φ st ts b) →
        ∃ vs : List Value, ((rv :: rvs).mapM (rd1 ts)).run P w = .ok vs w ∧ All2 (fun y v => R w G φ y v ∧ Tail w G y v) (y :: ys') vs ∧ ∀ b, vtk (y :: ys') vs b + cntH w φ st.heap b ≤ E.cnt w φ st ts b := fun st1 v h1 h2 h3 h4 h5 h6 h7 => by
      obtain ⟨vs, k1, k2, k3⟩ := resL_ok hk.2 ha.2 h1 h2
      refine ⟨v :: vs, ?_, .cons ⟨h5, h6⟩ k2, fun b => ?_⟩
      · rw [List.mapM_cons, Sem.run_bind, h4, Result.andThen_ok, Sem.run_bind, k1]
        rfl
      · have := k3 b
        have := h7 b
        rw [h3] at *
        have e : vtk (y :: ys') (v :: vs) b = tk y v b + vtk ys' vs b := by simp [vtk]
        omega
    cases r with
    | t n =>
      cases rv with
      | cell a t => exact absurd hk.1 (by simp [okResV])
      | tmp t =>
        have hk1 : t = n := by simpa [okResV] using hk.1
        subst hk1
        simp only [resV] at hy1
        obtain ⟨i1, i2⟩ := h.dropSlot hy1
        have he := h.env _ (get_mem hy1)
        refine fin _ (ts.getD t undef) ?_ i1 rfl rfl he.2.1 he.2.2 fun b => Nat.le_of_eq (i2 b)
        rw [← hy2]
        refine resL_congr fun q hq => ?_
        have := ha.1 q hq
        cases q with
        | t m => simp only [apart, bne_iff_ne] at this; simp only [resV]; exact get_del_ne _ fun e => this e.symm
        | cell m s k => simp only [apart, bne_iff_ne] at this; simp only [resV]; rw [get_del_ne _ fun e => this e.symm]
    | cell n s k =>
      cases rv with
      | tmp t => exact absurd hk.1 (by simp [okResV])
      | cell a t =>
        obtain ⟨hk1, hag⟩ : a = n ∧ aggIs P t k = true := by simpa [okResV] using hk.1
        subst hk1
        simp only [resV] at hy1
        split at hy1 <;> first | (cases hy1; done) | skip
        rename_i b z b' cs hp hg
        split at hy1 <;> first | (cases hy1; done) | skip
        rename_i hb
        subst hb
        obtain ⟨y0, hy0, rfl⟩ := Option.map_eq_some_iff.1 hy1
        have hlive : (b, boxB cs) ∈ live st := by rw [live_eq]; exact List.mem_append_left _ (List.mem_map.2 ⟨_, get_mem hg, rfl⟩)
        obtain ⟨m, cells, el, fr, e1, e2, e3, e4, e5, e6, e7⟩ := boxRep_out (h.live _ hlive)
        have hpr := (h.env _ (get_mem hp)).2.1
        simp only at hpr
        generalize hv0 : ts.getD a undef = v0 at hpr
        cases hpr with | ptr _ _ _ _ _ m' hm =>
        rw [e1] at hm; injection hm with hm; subst hm
        obtain ⟨v, hrun, hr, hvn⟩ := run_loadBlk (P := P) hag e3 e5 (fun i hi => (e7 i hi).1) hy0
        refine fin st v hy2 h rfl ?_ hr.clr (Tail_clr _ _ _ _) (fun b => by rw [tk_clr]; exact Nat.le_refl _)
        unfold rd1
        simp only
        rw [hv0, Sem.run_bind]
        simp only [Nat.zero_mul, Nat.add_zero]
        exact hrun

theorem results_run {fn : Func} {rs : List ARes} {st : St} {ys : List V} (hk : okRes P fn.results.toList rs = true) (ha : apartL rs = true) (hy : resL st rs = some ys) (h : Inv w G φ st ts) :
    ∃ v, (results fn ts).run P w = .ok v w ∧ R w G φ (outV ys) v ∧ Tail w G (outV ys) v ∧ ∀ b, tk (outV ys) v b + cntH w φ st.heap b ≤ E.cnt w φ st ts b := by
  obtain ⟨vs, h1, h2, h3⟩ := resL_ok hk ha hy h
  have hrun : (results fn ts).run P w = .ok (if h : vs.toArray.size = 1 then vs.toArray[0] else .tuple vs.toArray) w := by
    have e : results fn ts = (fn.results.mapM (rd1 ts) >>= fun vs => pure (if h : vs.size = 1 then vs[0] else .tuple vs)) := by
      have : rd1 ts = (fun x => match x with
        | .tmp t => (pure (ts.getD t undef) : Sem Value)
        | .cell a t => do loadVar t (← asAddr (ts.getD a undef))) := by funext x; cases x <;> rfl
      rw [this]; rfl
    rw [e, Array.mapM_eq_mapM_toList, Sem.run_bind, map_eq_pure_bind, Sem.run_bind, h1]
    rfl
  have hlen := h2.length
  by_cases h1' : ys.length = 1
  · obtain ⟨y, rfl⟩ := List.length_eq_one_iff.1 h1'
    cases h2 with | cons hp ht =>
    cases ht
    rename_i v
    refine ⟨v, by rw [hrun]; rfl, hp.1, hp.2, fun b => ?_⟩
    have := h3 b
    simpa [vtk, outV] using this
  · have ho : outV ys = .tup ys := by
      unfold outV
      split
      · exact absurd rfl h1'
      · rfl
    have hs : ¬ vs.toArray.size = 1 := by simp; omega
    refine ⟨.tuple vs.toArray, by rw [hrun, dif_neg hs], ?_, ?_, fun b => ?_⟩
    · rw [ho]
      refine .tup _ _ _ (by simp [hlen]) fun i hi => ?_
      have hz := h2.zip_mem (ys[i], vs[i]'(by omega)) (List.mem_iff_getElem.2 ⟨i, by rw [List.length_zip]; omega, by rw [List.getElem_zip]⟩)
      have hiv : i < vs.length := by omega
      have : vs.toArray.getD i undef = vs[i] := by simp [Array.getD, hiv]
      rw [this]
      exact hz.1
    · rw [ho]
      intro p hp
      rw [show leaves (.tup ys) (.tuple vs.toArray) = (ys.zip vs).flatMap fun p => p.1.cells.zip p.2.cells.toList from by simp [leaves], List.mem_flatMap] at hp
      obtain ⟨q, hq, hp⟩ := hp
      obtain ⟨y, u⟩ := q
      have hz := (h2.zip_mem _ hq).2
      by_cases hc : ∃ zs, y = .tup zs
      · obtain ⟨zs, rfl⟩ := hc
        obtain ⟨c, d⟩ := p
        have := (List.of_mem_zip hp).1
        simp [V.cells] at this
        subst this
        trivial
      · exact hz p (by rw [leaves_of_not_tup fun zs e => hc ⟨zs, e⟩]; exact hp)
    · rw [ho, tk_tup]
      have hle : tkT ys vs b ≤ vtk ys vs b := by
        unfold tkT vtk
        clear h1 hrun h3 hlen hy ho hs h1' hk ha h2
        induction ys generalizing vs with
        | nil => simp
        | cons y ys ih =>
          cases vs with
          | nil => simp
          | cons u vs =>
            simp only [List.zip_cons_cons, List.map_cons, List.sum_cons]
            have := ih vs
            have h1 : sumTk (y.cells.zip u.cells.toList) b ≤ tk y u b := by
              by_cases hc : ∃ zs, y = .tup zs
              · obtain ⟨zs, rfl⟩ := hc
                rw [sumTk_zero fun p hp => ?_]
                · exact Nat.zero_le _
                · obtain ⟨c, d⟩ := p
                  have := (List.of_mem_zip hp).1
                  simp [V.cells] at this
                  subst this
                  rfl
              · unfold tk
                rw [leaves_of_not_tup fun zs e => hc ⟨zs, e⟩]
                exact Nat.le_refl _
            omega
      have := h3 b
      simp only at hle ⊢
      omega

end
end Go.Proofs.Ytnodepfoahmcmaa.E

/- The engine, part AD: what a table of functions says, the machine does. Conditions: none. -/
namespace Go.Proofs.Ytnodepfoahmcmaa.E
set_option linter.unusedVariables false
set_option linter.unusedSimpArgs false

section
variable {P : Program} {w : World} {G : Nat → Nat} {φ : Nat → Option Nat} {ts : Array Value}

theorem mem_initE : ∀ {args : List V} {k : Nat} {p : Nat × V}, p ∈ initE k args → ∃ i, p.1 = k + i ∧ args[i]? = some p.2
  | [], k, p, h => by simp [initE] at h
  | x :: r, k, p, h => by
    simp only [initE, List.mem_cons] at h
    rcases h with rfl | h
    · exact ⟨0, rfl, rfl⟩
    · obtain ⟨i, h1, h2⟩ := mem_initE h
      exact ⟨i + 1, by omega, by simpa using h2⟩
theorem initE_sorted : ∀ (args : List V) (k : Nat), Sorted (initE k args)
  | [], k => List.Pairwise.nil
  | x :: r, k => by
    refine List.Pairwise.cons (fun p hp => ?_) (initE_sorted r (k + 1))
    obtain ⟨i, h1, _⟩ := mem_initE hp
    simp only
    omega
theorem initE_tk (ts : Array Value) (b : Nat) : ∀ (args : List V) (vs : List Value) (k : Nat), args.length = vs.length → (∀ i (h : i < vs.length), ts.getD (k + i) undef = vs[i]) → envTk (initE k args) ts b = vtk args vs b
  | [], vs, k, _, _ => by simp [initE, envTk, vtk]
  | x :: r, [], k, h, _ => by simp at h
  | x :: r, v :: vs, k, h, hh => by
    have ih := initE_tk ts b r vs (k + 1) (by simpa using h) fun i hi => by
      have := hh (i + 1) (by simpa using hi)
      simpa [Nat.add_assoc, Nat.add_comm 1 i] using this
    have h0 := hh 0 (by simp)
    simp only [Nat.add_zero, List.getElem_cons_zero] at h0
    simp only [initE, envTk, vtk, List.map_cons, List.sum_cons, List.zip_cons_cons, h0] at ih ⊢
    omega

/-- What is known of the functions that are not given as code. -/
def ExtOk (P : Program) (T : Tab) : Prop := ∀ f v args heap n q, T.ext f args heap n = some q → XS P f v args heap n (fun r h' n' => r = q.1 ∧ h' = q.2.1 ∧ n' = q.2.2)
theorem XS.weaken {f v : Nat} {args : List V} {heap : Heap} {n : Nat} {Q Q' : V → Heap → Nat → Prop} (h : XS P f v args heap n Q) (hq : ∀ r h n, Q r h n → Q' r h n) : XS P f v args heap n Q' :=
  ⟨h.1, fun w G φ vs hp => (h.2 w G φ vs hp).mono fun e w' ⟨r, u, heap', n', G', φ', h1, h2, h3⟩ => ⟨r, u, heap', n', G', φ', h1, hq _ _ _ h2, h3⟩⟩
theorem phi_ok {T : Tab} (hT : ∀ f v F, T.fn f v = some F → okFun P f F = true) (hE : ExtOk P T) (f v : Nat) (args : List V) (heap : Heap) (n : Nat) (Q : V → Heap → Nat → Prop) (h : Phi T (XS P) f v args heap n Q) : XS P f v args heap n Q := by
  rcases h with h | h
  · cases hx : T.ext f args heap n with
    | none => rw [hx] at h; exact h.elim
    | some q =>
      rw [hx] at h
      exact (hE f v args heap n q hx).weaken fun r h' n' hh => by obtain ⟨rfl, rfl, rfl⟩ := hh; exact h
  cases hF : T.fn f v with
  | none => rw [hF] at h; exact h.elim
  | some F =>
    rw [hF] at h
    obtain ⟨hnp, hw⟩ := h
    have hok := hT f v F hF
    unfold okFun at hok
    split at hok <;> first | (cases hok; done) | skip
    rename_i fn hfn
    rw [Bool.and_eq_true] at hok
    obtain ⟨hnm, hok⟩ := hok
    split at hok <;> first | (cases hok; done) | skip
    rename_i c hbody
    simp only [Bool.and_eq_true, decide_eq_true_iff] at hok
    obtain ⟨⟨⟨o1, o2⟩, o3⟩, o4⟩ := hok
    refine ⟨by unfold entersB; rw [hfn]; simp only [hnm, hbody, Option.isSome_some, Bool.and_self], ?_⟩
    intro w G φ vs hp
    obtain ⟨ha, hh, hs, hc, hn, hz⟩ := hp
    have hlen := ha.length
    refine calls_of_wp hfn hbody ?_
    have hget : ∀ i (hi : i < vs.length), (vs.toArray ++ Array.replicate (fn.ntmps - vs.toArray.size) undef).getD i undef = vs[i] := fun i hi => by
      simp only [Array.getD, Array.size_append, List.size_toArray, Array.size_replicate]
      rw [dif_pos (by omega)]
      simp only [Array.getInternal_eq_getElem]
      rw [Array.getElem_append_left (by simpa using hi)]
      simp
    have hInv : Inv w G φ ⟨initE 0 args, [], heap, n⟩ (vs.toArray ++ Array.replicate (fn.ntmps - vs.toArray.size) undef) := by
      refine ⟨initE_sorted _ _, List.Pairwise.nil, hs, fun p hp => ?_, fun p hp => ?_, fun b => ?_, hn, hz⟩
      · obtain ⟨i, h1, h2⟩ := mem_initE hp
        obtain ⟨hi, h3⟩ := List.getElem?_eq_some_iff.1 h2
        have hp1 : p.1 = i := by omega
        rw [hp1, hget i (by omega), ← h3]
        have := ha.get i hi (by omega)
        exact ⟨by simp; omega, this.1, this.2⟩
      · simp only [live, List.map_nil, List.nil_append] at hp
        exact hh p hp
      · have := hc b
        have e := initE_tk (vs.toArray ++ Array.replicate (fn.ntmps - vs.toArray.size) undef) b args vs 0 hlen fun i hi => by rw [Nat.zero_add]; exact hget i hi
        unfold cnt
        simp only [live, List.map_nil, List.nil_append]
        omega
    have hcnt0 : ∀ b, cnt w φ ⟨initE 0 args, [], heap, n⟩ (vs.toArray ++ Array.replicate (fn.ntmps - vs.toArray.size) undef) b = vtk args vs b + cntH w φ heap b := fun b => by
      have e := initE_tk (vs.toArray ++ Array.replicate (fn.ntmps - vs.toArray.size) undef) b args vs 0 hlen fun i hi => by rw [Nat.zero_add]; exact hget i hi
      unfold cnt
      simp only [live, List.map_nil, List.nil_append]
      omega
    refine wpC_ok F.code o1 hw hInv (by simp; omega) fun e st' act' w' G' φ' hq b1 b2 b3 b4 => ?_
    have fin : W (resL st' F.res) (fun rs => Q (outV rs) st'.heap st'.ctr) → act'.defers = [] ∧ ∃ u, (results fn act'.tmps).run P w' = .ok u w' ∧ ∃ r u' heap' n' G' φ', (Ending.returned u : Ending) = .returned u' ∧ Q r heap' n' ∧ HRes w G φ args vs heap n r heap' n' u' w' G' φ' := fun hw => by
      cases hy : resL st' F.res with
      | none => rw [hy] at hw; exact hw.elim
      | some ys =>
        rw [hy] at hw
        obtain ⟨u, r1, r2, r3, r4⟩ := results_run o3 o4 hy b1
        refine ⟨b3, u, r1, outV ys, u, st'.heap, st'.ctr, G', φ', rfl, hw, r2, r3, fun p hp => b1.live p (List.mem_append_right _ hp), b1.sortedH, fun b => Nat.le_trans (r4 b) (b1.cnt b), b1.ctr, b4.ctr, b1.zero, b4.ext, b4.mono, fun b hb hb0 => ?_⟩
        have := b4.fr b hb (by rw [hcnt0 b]; exact hb0)
        refine ⟨this.1, this.2.1, ?_⟩
        have := r4 b
        have := this
        omega
    cases e with
    | normal => exact fin hq
    | ret => exact fin hq
    | exit i => exact hq.elim

/-- What a table of functions says, the machine does. -/
theorem run_ok {T : Tab} (hT : ∀ f v F, T.fn f v = some F → okFun P f F = true) (hE : ExtOk P T) {f v : Nat} {args : List V} {heap : Heap} {n : Nat} {Q : V → Heap → Nat → Prop} (h : Run T f v args heap n Q) : XS P f v args heap n Q := h (XS P) fun f v args heap n Q => phi_ok hT hE f v args heap n Q

/-- A function of plain values that leaves all as it is. -/
theorem xs_pure {f v : Nat} {args : List V} {heap : Heap} {n : Nat} {r : V} (he : entersB P f = true) (hp : plainV r = true) (h : ∀ (w : World) (G : Nat → Nat) (φ : Nat → Option Nat) (vs : List Value), All2 (R w G φ) args vs → Calls P f vs.toArray w fun e w' => ∃ u, e = .returned u ∧ w' = w ∧ R w G φ r u) :
    XS P f v args heap n (fun r' h' n' => r' = r ∧ h' = heap ∧ n' = n) :=
  ⟨he, fun w G φ vs hh => (h w G φ vs (hh.ok.imp fun _ _ q => q.1)).mono fun e w' ⟨u, h1, h2, h3⟩ => by
    subst h2
    exact ⟨r, u, heap, n, G, φ, h1, ⟨rfl, rfl, rfl⟩, HRes.same hh h3 (Tail_plain hp _) fun b => tk_plain hp _ b⟩⟩

end
end Go.Proofs.Ytnodepfoahmcmaa.E

/- The engine, part AH: a law's arguments, as trees; and the law's row out of what the abstract code says. Conditions: none. -/
namespace Go.Proofs.Ytnodepfoahmcmaa.E
open Go.RowKit Go.WideShapes
set_option linter.unusedVariables false
set_option linter.unusedSimpArgs false

/-- All cells of what was there are left alone. -/
def full (w : World) (b : Nat) : Nat := match w.heap[b]? with | some (.cells cs _ _) => cs.size | _ => 0
theorem full_big (w : World) (b : Nat) (h : w.heap.size ≤ b) : full w b = 0 := by unfold full; rw [Array.getElem?_eq_none h]
theorem lt_full {w : World} {b o : Nat} {v : Value} (h : w.cell? ⟨b, o, none⟩ = some v) : o < full w b := by
  unfold World.cell? at h
  unfold full
  simp only at h
  split at h <;> first | (cases h; done) | skip
  rename_i cs el fr hb
  rw [hb]
  simp only [Option.isSome_none, Bool.false_eq_true, if_false] at h
  exact (Array.getElem?_eq_some_iff.1 h).1

abbrev R1 (w : World) (x : V) (v : Value) : Prop := R w (full w) (fun _ => none) x v
/-- A value of type t reads as a tree. -/
structure Opens {α : Type} (P : Program) (t : TypeId) (sz : Nat) (vl : α → V) (Gd : α → Prop) : Prop where
  size : P.cellsOf t = sz
  len : ∀ a, (vl a).cells.length = sz
  nh : ∀ a, ∀ c ∈ (vl a).cells, noH1 c = true ∧ clr1 c = c
  out : ∀ {H : Type} {enc : TypeId × Value → H} {w : World} {held : Bool} {fuel : Nat} {cs : List Value} {x : DataW H × List MemPlace}, DataW.trod enc P w 0 (fun _ => true) held fuel t cs = some x →
    (∀ n ∈ x.1.weights P t, n ≤ reachBytes) → ∃ a : α, All2 (R1 w) (vl a).cells cs ∧ Gd a

def vInt (k : IntKind) (n : Int) : V := .int k n
def vBool (b : Bool) : V := .bool b
def vStr (s : List UInt8) : V := .str s
def vSl {α : Type} (sz : Nat) (vl : α → V) (l : List α) : V := .sl false sz (l.map vl)

theorem opens_int {P : Program} {t : TypeId} {k : IntKind} (ht : P.underlying t = some (.int k)) (hs : P.cellsOf t = 1) : Opens P t 1 (vInt k) (fun x => (Lit.int k x).wf = true) where
  size := hs
  len _ := rfl
  nh a c hc := by obtain rfl := List.mem_singleton.1 hc; exact ⟨rfl, rfl⟩
  out := by
    intro H enc w held fuel cs x h _
    obtain ⟨n, rfl, _, hw⟩ := DataW.trod_int ht h
    exact ⟨n, .cons (.int _ _ _) .nil, hw⟩
theorem opens_bool {P : Program} {t : TypeId} (ht : P.underlying t = some .bool) (hs : P.cellsOf t = 1) : Opens P t 1 vBool (fun _ => True) where
  size := hs
  len _ := rfl
  nh a c hc := by obtain rfl := List.mem_singleton.1 hc; exact ⟨rfl, rfl⟩
  out := by
    intro H enc w held fuel cs x h _
    obtain ⟨n, rfl, _⟩ := DataW.trod_bool ht h
    exact ⟨n, .cons (.bool _ _) .nil, trivial⟩
theorem opens_string {P : Program} {t : TypeId} (ht : P.underlying t = some .string) (hs : P.cellsOf t = 1) : Opens P t 1 vStr (fun s => s.length ≤ 140737488351232) where
  size := hs
  len _ := rfl
  nh a c hc := by obtain rfl := List.mem_singleton.1 hc; exact ⟨rfl, rfl⟩
  out := by
    intro H enc w held fuel cs x h hw
    obtain ⟨s, rfl, rfl, _⟩ := DataW.trod_string ht h
    refine ⟨s.data.toList, .cons (.str _ _) .nil, ?_⟩
    have z := hw s.data.toList.length (by simp [DataW.weights])
    simpa [reachBytes] using z

theorem weights_all {H : Type} {P : Program} {e : TypeId} : ∀ {l : List (DataW H)} {d : DataW H}, d ∈ l → ∀ n ∈ d.weights P e, n ∈ DataW.weightsAll P e l
  | [], _, h, _, _ => by cases h
  | x :: l, d, h, n, hn => by
    simp only [DataW.weightsAll, List.mem_append]
    rcases List.mem_cons.1 h with rfl | h
    · exact .inl hn
    · exact .inr (weights_all h n hn)

theorem opens_slice {α : Type} {P : Program} {t e : TypeId} {vl : α → V} {sz : Nat} {G : α → Prop} (B : Nat) (hsz : 0 < sz) (ht : P.underlying t = some (.slice e)) (hs : P.cellsOf t = 1) (hB : P.bytesOf e = B) (ho : Opens P e sz vl G) :
    Opens P t 1 (vSl sz vl) (fun l => l.length * B ≤ 140737488351232 ∧ ∀ x ∈ l, G x) where
  size := hs
  len _ := rfl
  nh a c hc := by obtain rfl := List.mem_singleton.1 hc; exact ⟨rfl, rfl⟩
  out := by
    intro H enc w held fuel cs x h hw
    rcases DataW.trod_slice ht h with ⟨rfl, rfl⟩ | ⟨a, len, cap, elems, rest, n, rfl, rfl, rfl, _, hl, hm, hlen, hel, _, _⟩
    · exact ⟨[], .cons (.slNil _ _ _ _ _) .nil, by simp, by simp⟩
    · have each : ∀ i, i < len → ∃ (z : α) (c : List Value), c.length = sz ∧ All2 (R1 w) (vl z).cells c ∧ G z ∧ ∀ j u, c[j]? = some u → w.cell? (a.add (i * sz + j)) = some u := by
        intro i hi
        have h1 := hel i hi
        have hil : i < elems.length := by omega
        rw [List.getElem?_eq_getElem hil, Option.bind_eq_some_iff] at h1
        obtain ⟨c, hc, hy⟩ := h1
        obtain ⟨z, hz, hg⟩ := ho.out hy (fun n hn => hw n (by
          simp only [DataW.weights, ht, List.mem_cons, List.mem_append]
          exact .inr (.inl (weights_all (List.mem_map.2 ⟨_, List.getElem_mem hil, rfl⟩) n hn))))
        obtain ⟨_, hcl, hcell⟩ := World.cells?_some hc
        rw [ho.size] at hcl hcell
        refine ⟨z, c, hcl, hz, hg, fun j u hu => ?_⟩
        have hj : j < c.length := (List.getElem?_eq_some_iff.1 hu).1
        have := hcell j (by omega)
        rw [← hu, ← this, Go.Deep.add_add]
      have pick : ∀ m, m ≤ len → ∃ zs : List α, zs.length = m ∧ (∀ x ∈ zs, G x) ∧ ∀ i p, zs[i]? = some p → ∃ c, c.length = sz ∧ All2 (R1 w) (vl p).cells c ∧ ∀ j u, c[j]? = some u → w.cell? (a.add (i * sz + j)) = some u := by
        intro m
        induction m with
        | zero => exact fun _ => ⟨[], rfl, by simp, by simp⟩
        | succ m ih =>
          intro hm'
          obtain ⟨zs, h1, h2, h3⟩ := ih (by omega)
          obtain ⟨z, c, hcl, hz, hg, hcell⟩ := each m (by omega)
          refine ⟨zs ++ [z], by simp [h1], fun x hx => ?_, fun i p hp => ?_⟩
          · rcases List.mem_append.1 hx with hx | hx
            · exact h2 x hx
            · rw [List.mem_singleton.1 hx]
              exact hg
          · rcases Nat.lt_or_ge i zs.length with hi | hi
            · rw [List.getElem?_append_left hi] at hp
              exact h3 i p hp
            · have hi' : i = zs.length := by
                have := (List.getElem?_eq_some_iff.1 hp).1
                simp at this
                omega
              subst hi'
              have hp' : z = p := by simpa using hp
              subst hp'
              rw [h1]
              exact ⟨c, hcl, hz, hcell⟩
      obtain ⟨zs, hzl, hG, hat⟩ := pick len (Nat.le_refl _)
      have hwt := hw ((elems.length + rest.length) * P.bytesOf e) (by simp [DataW.weights, ht])
      refine ⟨zs, .cons ?_ .nil, ?_, hG⟩
      · subst hzl
        rcases Nat.eq_zero_or_pos zs.length with h0 | hpos
        · obtain rfl : zs = [] := List.eq_nil_of_length_eq_zero h0
          exact .slNil _ _ _ _ _
        · have hsp : a.spot = none := by
            obtain ⟨c, hc1, _, hc3⟩ := hat 0 zs[0] (List.getElem?_eq_getElem hpos)
            have := hc3 0 c[0] (List.getElem?_eq_getElem (by omega))
            rw [Nat.zero_mul] at this
            exact World.cell?_spot this
          obtain ⟨blk, off, sp⟩ := a
          simp only at hsp
          subst hsp
          have hx : ∀ i (hi : i < zs.length), ∃ c : List Value, c.length = sz ∧ All2 (R1 w) (vl zs[i]).cells c ∧ ∀ j u, c[j]? = some u → w.cell? ⟨blk, off + i * sz + j, none⟩ = some u := fun i hi => by
            obtain ⟨c, h1, h2, h3⟩ := hat i zs[i] (List.getElem?_eq_getElem hi)
            refine ⟨c, h1, h2, fun j u hu => ?_⟩
            have := h3 j u hu
            rw [add_none] at this
            rw [Nat.add_assoc]
            exact this
          let f : Nat → Nat → Value := fun i j => (w.cell? ⟨blk, off + i * sz + j, none⟩).getD undef
          have hf : ∀ i j, i < zs.length → j < sz → w.cell? ⟨blk, off + i * sz + j, none⟩ = some (f i j) ∧ ∀ (hi : i < zs.length) (hj : j < (vl zs[i]).cells.length), R1 w ((vl zs[i]).cells[j]) (f i j) := fun i j hi hj => by
            obtain ⟨c, h1, h2, h3⟩ := hx i hi
            have h4 := h3 j c[j] (List.getElem?_eq_getElem (by omega))
            have e : f i j = c[j] := by simp only [f, h4, Option.getD_some]
            refine ⟨by rw [h4, e], fun _ hj' => ?_⟩
            rw [e]
            exact h2.get j hj' (by omega)
          have hml : (zs.map vl).length = zs.length := List.length_map ..
          have hmain := R.sl (w := w) (G := full w) (fun _ => none) false sz (zs.map vl) blk off cap f (by rw [hml]; exact hl) (fun i j hi hj => (hf i j (by omega) hj).1) (fun i j hi hj => ?_) (fun i hi => ?_) (fun i j hi hj => ?_) ?_
          · rw [hml] at hmain
            exact hmain
          · have hi' : i < zs.length := by omega
            have hj' : j < (vl zs[i]).cells.length := by rw [ho.len]; exact hj
            exact oneCell_noH1 ((hf i j hi' hj).2 hi' hj') (ho.nh _ _ (List.getElem_mem hj')).1
          · rw [List.getElem_map]; exact ho.len _
          · have hi' : i < zs.length := by omega
            simp only [List.getElem_map] at hj ⊢
            exact (hf i j hi' (by rw [ho.len] at hj; exact hj)).2 hi' hj
          · rw [hml]
            have h1 := (hf (zs.length - 1) (sz - 1) (by omega) (by omega)).1
            have h2 := lt_full h1
            have h3 : zs.length * sz = (zs.length - 1) * sz + sz := by
              rw [← Nat.succ_mul]; congr 1; omega
            omega
      · rw [hB] at hwt
        rw [hzl, ← hlen]
        exact Nat.le_trans (Nat.mul_le_mul_right _ (Nat.le_add_right _ _)) (by simpa [reachBytes] using hwt)

/-- A struct's fields from place o on. -/
structure OpensF {α : Type} (P : Program) (fs : List Field) (o sz : Nat) (cl : α → List V) (G : α → Prop) : Prop where
  len : ∀ a, (cl a).length = sz
  nh : ∀ a, ∀ c ∈ cl a, noH1 c = true ∧ clr1 c = c
  out : ∀ {H : Type} {enc : TypeId × Value → H} {w : World} {held : Bool} {n : Nat} {cs : List Value} {xs : List (DataW H × List MemPlace)}, cs.length = o + sz → xs.length = fs.length →
    (∀ (i : Nat) (f : Field), fs[i]? = some f → DataW.trod enc P w 0 (fun _ => true) held n f.type ((cs.drop f.offset).take (P.cellsOf f.type)) = xs[i]?) →
    (∀ n ∈ DataW.weightsEach P (fs.map (·.type)) (xs.map (·.1)), n ≤ reachBytes) → ∃ a : α, All2 (R1 w) (cl a) (cs.drop o) ∧ G a
theorem opensF_one {α : Type} {P : Program} {f : Field} {vl : α → V} {G : α → Prop} {o sz : Nat} (hoff : f.offset = o) (ho : Opens P f.type sz vl G) : OpensF P [f] o sz (fun a => (vl a).cells) G where
  len := ho.len
  nh := ho.nh
  out := by
    subst hoff
    intro H enc w held n cs xs hl hx hf hw
    match xs, hx with
    | [x], _ =>
      have h1 := hf 0 f rfl
      simp only [List.getElem?_cons_zero] at h1
      obtain ⟨a, hk, hg⟩ := ho.out h1 (fun n hn => hw n (by simp only [List.map_cons, DataW.weightsEach, List.mem_append]; exact .inl hn))
      rw [ho.size, List.take_of_length_le (by rw [List.length_drop]; omega)] at hk
      exact ⟨a, hk, hg⟩
theorem All2.append {α β : Type} {p : α → β → Prop} {x x' : List α} {y y' : List β} (h : All2 p x y) (h' : All2 p x' y') : All2 p (x ++ x') (y ++ y') := by
  induction h with
  | nil => exact h'
  | cons h _ ih => exact .cons h ih
theorem opensF_cons {α β : Type} {P : Program} {f : Field} {fs : List Field} {vl : α → V} {cr : β → List V} {G : α → Prop} {Gr : β → Prop} {o s1 s2 : Nat} (hoff : f.offset = o) (ho : Opens P f.type s1 vl G) (hr : OpensF P fs (o + s1) s2 cr Gr) :
    OpensF P (f :: fs) o (s1 + s2) (fun x : α × β => (vl x.1).cells ++ cr x.2) (fun x => G x.1 ∧ Gr x.2) where
  len a := by rw [List.length_append, ho.len, hr.len]
  nh a c hc := by
    rcases List.mem_append.1 hc with hc | hc
    · exact ho.nh _ _ hc
    · exact hr.nh _ _ hc
  out := by
    subst hoff
    intro H enc w held n cs xs hl hx hf hw
    match xs, hx with
    | x :: xs, hx =>
      have h1 := hf 0 f rfl
      simp only [List.getElem?_cons_zero] at h1
      obtain ⟨a, hk, hg⟩ := ho.out h1 (fun n hn => hw n (by simp only [List.map_cons, DataW.weightsEach, List.mem_append]; exact .inl hn))
      obtain ⟨b, hkb, hgb⟩ := hr.out (cs := cs) (xs := xs) (by omega) (by simpa using hx) (fun i g hi => by simpa using hf (i + 1) g (by simpa using hi)) (fun n hn => hw n (by simp only [List.map_cons, DataW.weightsEach, List.mem_append]; exact .inr hn))
      refine ⟨(a, b), ?_, hg, hgb⟩
      have := hk.append hkb
      rw [ho.size, ← List.drop_drop, List.take_append_drop] at this
      exact this
theorem opens_struct {α β : Type} {P : Program} {t : TypeId} {fs : Array Field} {sz : Nat} {cl : α → List V} {G : α → Prop} (f : β → α) (hsur : ∀ a, ∃ b, f b = a) (ht : P.underlying t = some (.struct fs)) (hs : P.cellsOf t = sz) (ho : OpensF P fs.toList 0 sz cl G) :
    Opens P t sz (fun b => V.agg (cl (f b))) (fun x => G (f x)) where
  size := hs
  len b := ho.len _
  nh b := ho.nh _
  out := by
    intro H enc w held fuel cs x h hw
    obtain ⟨xs, n, rfl, rfl, hl, hx, hf⟩ := DataW.trod_struct ht h
    obtain ⟨a, hk, hg⟩ := ho.out (by rw [hl, hs]; omega) (by simpa using hx) (fun i f hi => hf i f (by simpa using hi)) (fun n hn => hw n (by simp only [DataW.weights, ht]; exact hn))
    obtain ⟨b, rfl⟩ := hsur a
    rw [List.drop_zero] at hk
    exact ⟨b, hk, hg⟩
theorem Opens.weaken {α : Type} {P : Program} {t : TypeId} {sz : Nat} {vl : α → V} {G G' : α → Prop} (h : Opens P t sz vl G) (hg : ∀ x, G x → G' x) : Opens P t sz vl G' where
  size := h.size
  len := h.len
  nh := h.nh
  out := fun h1 h2 => by
    obtain ⟨a, hk, hG⟩ := h.out h1 h2
    exact ⟨a, hk, hg a hG⟩

/-- An argument, as the engine wants it. -/
def ArgOk (w : World) (x : V) (v : Value) : Prop := R1 w x v ∧ noH2 x = true ∧ clr x = x
theorem arg_one {α : Type} {P : Program} {t : TypeId} {vl : α → V} {Gd : α → Prop} {w : World} {v : Value} {a : α} (ho : Opens P t 1 vl Gd) (hv : v.cells = #[v]) (h1 : (vl a).cells = [vl a]) (h : All2 (R1 w) (vl a).cells v.cells.toList) : ArgOk w (vl a) v := by
  rw [hv, h1] at h
  cases h with | cons h _ =>
  obtain ⟨n1, n2⟩ := ho.nh a (vl a) (by rw [h1]; simp)
  refine ⟨h, ?_, ?_⟩
  · cases hx : vl a <;> rw [hx] at n1 <;> first | exact n1 | (simp [noH1] at n1)
  · cases hx : vl a <;> rw [hx] at n1 n2 <;> first | exact n2 | (simp [noH1] at n1)
theorem arg_agg {α : Type} {P : Program} {t : TypeId} {sz : Nat} {cl : α → List V} {Gd : α → Prop} {w : World} {cs : Array Value} {a : α} (ho : Opens P t sz (fun a => V.agg (cl a)) Gd) (h : All2 (R1 w) (cl a) (Value.agg cs).cells.toList) : ArgOk w (.agg (cl a)) (.agg cs) := by
  have hc : (Value.agg cs).cells = cs := rfl
  rw [hc] at h
  have hl := h.length
  have nh := ho.nh a
  refine ⟨.agg _ _ _ (by simpa using hl.symm) fun i hi => ?_, ?_, ?_⟩
  · have hi2 : i < cs.size := by have := Array.length_toList (xs := cs); omega
    have := h.get i hi (by simpa using hi2)
    have e : cs.getD i undef = cs.toList[i]'(by simpa using hi2) := by simp [Array.getD, hi2]
    rw [e]
    exact this
  · simp only [noH2, List.all_eq_true]
    exact fun c hc => (nh c hc).1
  · simp only [clr, clr2]
    congr 1
    have : (cl a).map clr1 = (cl a).map id := List.map_congr_left fun c hc => (nh c hc).2
    rw [this, List.map_id]

/-- A law's call: what the abstract code says, the machine does; what was there stays. -/
theorem law_calls {P : Program} {T : Tab} (hT : ∀ f v F, T.fn f v = some F → okFun P f F = true) (hE : ExtOk P T) {f : Nat} {args : List V} {vs : List Value} {w : World} (hargs : All2 (ArgOk w) args vs) (h : Run T f 0 args [] 0 (fun r _ _ => r = .bool true)) :
    Calls P f vs.toArray w fun e w' => e = .returned (.bool true) ∧ Below w.heap.size w w' := by
  have htk0 : ∀ {x : V} {v : Value}, clr x = x → (∀ b, tk x v b = 0) ∧ Tail w (full w) x v := fun {x v} hx => by
    rw [← hx]; exact ⟨fun b => tk_clr _ _ _, Tail_clr _ _ _ _⟩
  have hv0 : ∀ b, vtk args vs b = 0 := fun b => by
    have hz := hargs
    clear h hargs
    induction hz with
    | nil => rfl
    | @cons x v xs' vs' hp _ ih =>
      have e : vtk (x :: xs') (v :: vs') b = tk x v b + vtk xs' vs' b := by simp [vtk]
      rw [e, ih, (htk0 hp.2.2).1]
  have hX := run_ok hT hE h
  refine (hX.2 w (full w) (fun _ => none) vs ⟨hargs.imp fun x v hh => ⟨hh.1, (htk0 hh.2.2).2⟩, (fun p hp => nomatch hp), List.Pairwise.nil, fun b => (by rw [hv0 b]; simp [cntH]), (fun b m hb => nomatch hb), full_big w⟩).mono ?_
  rintro e w' ⟨r, u, heap', n', G', φ', rfl, rfl, H⟩
  have hu := H.rel
  cases hu
  exact ⟨rfl, H.ext.os, H.ext.tape, H.ext.output, H.ext.size, fun k hk => (H.fr k hk (by rw [hv0 k]; simp [cntH])).1⟩

end Go.Proofs.Ytnodepfoahmcmaa.E

/- The engine, part AE: how abstract code is run by rewriting. Conditions: none. -/
namespace Go.Proofs.Ytnodepfoahmcmaa.E
set_option linter.unusedVariables false
set_option linter.unusedSimpArgs false

section
variable {X : Sem3} {Q : AE → St → Prop} {K : St → Prop}

theorem nr {α : Sort _} {a b : α} (h : a = b) : a = b := h
/-- A mark that keeps what it marks from being rewritten. -/
structure Tag {α : Sort _} (a : α) : Type where
def WK {α : Type} (o : Option α) (k : α → Prop) (t : Tag k) : Prop := W o k
@[congr] theorem WK_congr {α : Type} {o o' : Option α} {k : α → Prop} {t : Tag k} (h : o = o') : WK o k t = WK o' k t := by rw [h]
/-- What must hold here, and what comes next. -/
def Req (p q : Prop) : Prop := p ∧ q
theorem Req.intro {p q : Prop} (h : p) (k : q) : Req p q := ⟨h, k⟩
theorem Req_true {q : Prop} : Req True q = q := by simp [Req]
theorem Req_and {p p' q : Prop} : Req (p ∧ p') q = Req p (Req p' q) := by simp [Req, and_assoc]
/-- A test. -/
def ifB (c : Bool) (p q : Prop) (t : Tag (p, q)) : Prop := if c = true then p else q
theorem ifB.intro {c : Bool} {p q : Prop} {t : Tag (p, q)} (h : c = true → p) (k : c = false → q) : ifB c p q t := by cases c <;> simp [ifB] at * <;> assumption
theorem ifB.yes {c : Bool} {p q : Prop} {t : Tag (p, q)} (hc : c = true) (h : p) : ifB c p q t := by subst hc; exact h
theorem ifB.no {c : Bool} {p q : Prop} {t : Tag (p, q)} (hc : c = false) (h : q) : ifB c p q t := by subst hc; exact h
theorem ifB_true {p q : Prop} {t : Tag (p, q)} : ifB true p q t = p := nr rfl
theorem ifB_false {p q : Prop} {t : Tag (p, q)} : ifB false p q t = q := nr rfl
theorem ifB_not {c : Bool} {p q : Prop} {t : Tag (p, q)} : ifB (!c) p q t = ifB c q p ⟨⟩ := by cases c <;> rfl
@[congr] theorem ifB_congr {c c' : Bool} {p q : Prop} {t : Tag (p, q)} (h : c = c') : ifB c p q t = ifB c' p q t := by rw [h]

@[congr] theorem wpC_st {c : AC} {st st' : St} (h : st = st') : wpC X c Q st = wpC X c Q st' := by rw [h]
@[congr] theorem wpL_st {l : List AOp} {st st' : St} (h : st = st') : wpL X l K st = wpL X l K st' := by rw [h]
@[congr] theorem wpLD_st {l : List AOp} {st st' : St} (h : st = st') : wpLD X l K st = wpLD X l K st' := by rw [h]
@[congr] theorem W_congr {α : Type} {o o' : Option α} {k : α → Prop} (h : o = o') : W o k = W o' k := by rw [h]
/-- A call, as it stands. -/
def CallA (X : Sem3) (f v : Nat) (args : List V) (k : V → Prop) (t : Tag k) : Prop := args.all noH = true ∧ ∃ Q0, X f v args [] 0 Q0 ∧ ∀ r h n, Q0 r h n → noH r = true ∧ k r
def CallD (X : Sem3) (f v : Nat) (args : List V) (k : V → Prop) (t : Tag k) : Prop := args.all noH = true ∧ ∃ r Q0, X f v args [] 0 Q0 ∧ (∀ r' h n, Q0 r' h n → r' = r) ∧ noH r = true ∧ k r
@[congr] theorem CallA_congr {f v : Nat} {args args' : List V} {k : V → Prop} {t : Tag k} (h : args = args') : CallA X f v args k t = CallA X f v args' k t := by rw [h]
@[congr] theorem CallD_congr {f v : Nat} {args args' : List V} {k : V → Prop} {t : Tag k} (h : args = args') : CallD X f v args k t = CallD X f v args' k t := by rw [h]
theorem CallA.eq {f v : Nat} {args : List V} {k : V → Prop} {t : Tag k} {r : V} (ha : args.all noH = true) (h : X f v args [] 0 (fun r' _ _ => r' = r)) (hr : noH r = true) (hk : k r) : CallA X f v args k t :=
  ⟨ha, _, h, fun r' h n e => by subst e; exact ⟨hr, hk⟩⟩
theorem CallD.eq {f v : Nat} {args : List V} {k : V → Prop} {t : Tag k} {r : V} (ha : args.all noH = true) (h : X f v args [] 0 (fun r' _ _ => r' = r)) (hr : noH r = true) (hk : k r) : CallD X f v args k t :=
  ⟨ha, r, _, h, fun r' h n e => e, hr, hk⟩
/-- A result that is one of many. -/
theorem CallA.any {f v : Nat} {args : List V} {k : V → Prop} {t : Tag k} {R : V → Prop} (ha : args.all noH = true) (h : X f v args [] 0 (fun r' _ _ => R r')) (hk : ∀ r, R r → noH r = true ∧ k r) : CallA X f v args k t :=
  ⟨ha, _, h, fun r' h n e => hk r' e⟩

/-- A call that works on the blocks. -/
def CallH (X : Sem3) (v : Nat) (x : V) (args : List V) (hp : Heap) (n : Nat) (k : V → Heap → Nat → Prop) (t : Tag k) : Prop := match x with | .fn f cap => ∃ Q0, X f v (args ++ cap.map clr) hp n Q0 ∧ ∀ r h n, Q0 r h n → k r h n | _ => False
def CallHD (X : Sem3) (v : Nat) (x : V) (args : List V) (hp : Heap) (n : Nat) (k : V → Heap → Nat → Prop) (t : Tag k) : Prop := match x with | .fn f cap => ∃ r h m Q0, X f v (args ++ cap.map clr) hp n Q0 ∧ (∀ r' h' n', Q0 r' h' n' → r' = r ∧ h' = h ∧ n' = m) ∧ k r h m | _ => False
@[congr] theorem CallH_congr {v : Nat} {x x' : V} {args args' : List V} {hp hp' : Heap} {n : Nat} {k : V → Heap → Nat → Prop} {t : Tag k} (h : args = args') (h2 : x = x') (h3 : hp = hp') : CallH X v x args hp n k t = CallH X v x' args' hp' n k t := by rw [h, h2, h3]
@[congr] theorem CallHD_congr {v : Nat} {x x' : V} {args args' : List V} {hp hp' : Heap} {n : Nat} {k : V → Heap → Nat → Prop} {t : Tag k} (h : args = args') (h2 : x = x') (h3 : hp = hp') : CallHD X v x args hp n k t = CallHD X v x' args' hp' n k t := by rw [h, h2, h3]
theorem CallH.eq {f v : Nat} {cap args : List V} {hp h : Heap} {n m : Nat} {k : V → Heap → Nat → Prop} {t : Tag k} {r : V} (hX : X f v (args ++ cap.map clr) hp n (fun r' h' n' => r' = r ∧ h' = h ∧ n' = m)) (hk : k r h m) : CallH X v (.fn f cap) args hp n k t := ⟨_, hX, fun r' h' n' e => by obtain ⟨rfl, rfl, rfl⟩ := e; exact hk⟩
theorem CallHD.eq {f v : Nat} {cap args : List V} {hp h : Heap} {n m : Nat} {k : V → Heap → Nat → Prop} {t : Tag k} {r : V} (hX : X f v (args ++ cap.map clr) hp n (fun r' h' n' => r' = r ∧ h' = h ∧ n' = m)) (hk : k r h m) : CallHD X v (.fn f cap) args hp n k t := ⟨r, h, m, _, hX, fun r' h' n' e => e, hk⟩
theorem CallH.any {f v : Nat} {cap args : List V} {hp : Heap} {n : Nat} {k : V → Heap → Nat → Prop} {t : Tag k} {R : V → Heap → Nat → Prop} (hX : X f v (args ++ cap.map clr) hp n R) (hk : ∀ r h m, R r h m → k r h m) : CallH X v (.fn f cap) args hp n k t := ⟨_, hX, hk⟩
def getJ : List (Nat × V) → Nat → V
  | [], _ => .junk
  | (a, x) :: r, k => if k = a then x else getJ r k
theorem getJ_eq : ∀ (l : List (Nat × V)) (k : Nat), (get l k).getD .junk = getJ l k
  | [], _ => rfl
  | (a, x) :: r, k => by
    simp only [get, getJ]
    split
    · rfl
    · exact getJ_eq r k
def getB : List (Nat × (Nat × List V)) → Nat → Nat × List V
  | [], _ => (0, [])
  | (a, x) :: r, k => if k = a then x else getB r k
def evE (env : List (Nat × V)) : Opd → V
  | .t n => clr (getJ env n)
  | .m n => getJ env n
  | .c x => x
def evsE (env : List (Nat × V)) : List Opd → List V
  | [] => []
  | x :: r => evE env x :: evsE env r
/-- Slots after operands have been moved out. -/
def mvE (env : List (Nat × V)) : List Opd → List (Nat × V) → List (Nat × V)
  | [], e => e
  | .m n :: r, e => mvE env r (match get env n with | some x => set e n (clr x) | none => e)
  | _ :: r, e => mvE env r e
def putE (env : List (Nat × V)) : Option Nat → V → List (Nat × V)
  | none, _ => env
  | some d, x => set env d x

theorem ev_eq (env : List (Nat × V)) (loc : List (Nat × (Nat × List V))) (h : Heap) (n : Nat) (x : Opd) : St.ev ⟨env, loc, h, n⟩ x = evE env x := by cases x <;> simp [St.ev, evE, getJ_eq]
theorem evs_eq (env : List (Nat × V)) (loc : List (Nat × (Nat × List V))) (h : Heap) (n : Nat) : ∀ l : List Opd, l.map (St.ev ⟨env, loc, h, n⟩) = evsE env l
  | [] => rfl
  | x :: r => by rw [List.map_cons, ev_eq, evs_eq env loc h n r]; rfl
theorem sets_moves (env : List (Nat × V)) (loc : List (Nat × (Nat × List V))) (h : Heap) (n : Nat) : ∀ (l : List Opd) (e : List (Nat × V)), sets e (St.moves ⟨env, loc, h, n⟩ l) = mvE env l e
  | [], e => rfl
  | .t k :: r, e => sets_moves env loc h n r e
  | .c k :: r, e => sets_moves env loc h n r e
  | .m k :: r, e => by
    simp only [St.moves, mvE]
    cases get env k with
    | none => exact sets_moves env loc h n r e
    | some x => exact sets_moves env loc h n r (set e k (clr x))
theorem sets_app {α : Type} (r a b : List (Nat × α)) : sets r (a ++ b) = sets (sets r a) b := by simp [sets, List.foldl_append]
theorem sets_dst (env : List (Nat × V)) (d : Option Nat) (x : V) : sets env (dstw d x) = putE env d x := by cases d <;> rfl
theorem app_mv (env : List (Nat × V)) (loc : List (Nat × (Nat × List V))) (h : Heap) (n : Nat) (l : List Opd) (d : Option Nat) (x : V) : St.app ⟨env, loc, h, n⟩ ⟨St.moves ⟨env, loc, h, n⟩ l ++ dstw d x, [], 0, none⟩ = ⟨putE (mvE env l env) d x, loc, h, n⟩ := by
  simp only [St.app, sets_app, sets_moves, sets_dst]; rfl

variable {env : List (Nat × V)} {loc : List (Nat × (Nat × List V))} {h : Heap} {n : Nat} {d : Option Nat} {g : Option (Nat × Bool)} {r : List AOp}

theorem W_map {α β : Type} (o : Option α) (f : α → β) (k : β → Prop) : W (o.map f) k = W o fun a => k (f a) := by cases o <;> rfl
theorem W_bind {α β : Type} (o : Option α) (f : α → Option β) (k : β → Prop) : W (o.bind f) k = W o fun a => W (f a) k := by cases o <;> rfl
theorem W_some {α : Type} (a : α) (k : α → Prop) : W (some a) k = k a := nr rfl
theorem W_none {α : Type} (k : α → Prop) : W none k = False := nr rfl
theorem W_ite {α : Type} (p : Prop) [Decidable p] (o : Option α) (k : α → Prop) : W (if p then o else none) k = Req p (W o k) := by
  by_cases h : p
  · rw [if_pos h]; simp [h, Req]
  · rw [if_neg h]; simp [h, W, Req]
theorem WK_map {α β : Type} (o : Option α) (f : α → β) (k : β → Prop) (t : Tag k) : WK (o.map f) k t = WK o (fun a => k (f a)) ⟨⟩ := W_map o f k
theorem WK_bind {α β : Type} (o : Option α) (f : α → Option β) (k : β → Prop) (t : Tag k) : WK (o.bind f) k t = WK o (fun a => WK (f a) k t) ⟨⟩ := W_bind o f k
theorem WK_some {α : Type} (a : α) (k : α → Prop) (t : Tag k) : WK (some a) k t = k a := nr rfl
theorem WK_none {α : Type} (k : α → Prop) (t : Tag k) : WK none k t = False := nr rfl
theorem WK_ite {α : Type} (p : Prop) [Decidable p] (o : Option α) (k : α → Prop) (t : Tag k) : WK (if p then o else none) k t = Req p (WK o k t) := W_ite p o k
theorem WK.intro {α : Type} {o : Option α} {x : α} {k : α → Prop} {t : Tag k} (h : o = some x) (hk : k x) : WK o k t := by rw [h]; exact hk
theorem WK.idx {α : Type} {l : List α} {i : Nat} {k : α → Prop} {t : Tag k} (h : i < l.length) (hk : ∀ x, l[i]? = some x → k x) : WK l[i]? k t := by
  unfold WK
  rw [List.getElem?_eq_getElem h]; exact hk _ (List.getElem?_eq_getElem h)

/-- One operation; then the next. -/
def opP (X : Sem3) (d : Option Nat) (k : AK) (next : St → Prop) (st : St) : Prop := wpO X ⟨d, none, k⟩ next st
def opD (X : Sem3) (d : Option Nat) (k : AK) (next : St → Prop) (st : St) : Prop := wpOD X ⟨d, none, k⟩ next st
@[congr] theorem opP_st {k : AK} {next : St → Prop} {st st' : St} (h : st = st') : opP X d k next st = opP X d k next st' := by rw [h]
@[congr] theorem opD_st {k : AK} {next : St → Prop} {st st' : St} (h : st = st') : opD X d k next st = opD X d k next st' := by rw [h]
/-- A test of what a slot holds. -/
def tst (x : V) (b : Bool) (p q : Prop) (t : Tag (p, q)) : Prop := match x with | .bool c => if (c == b) = true then p else q | .tup [] => q | _ => False
@[congr] theorem tst_congr {x x' : V} {b : Bool} {p q : Prop} {t : Tag (p, q)} (h : x = x') : tst x b p q t = tst x' b p q t := by rw [h]
theorem tst_t {c : Bool} {p q : Prop} {t : Tag (p, q)} : tst (.bool c) true p q t = ifB c p q t := by cases c <;> rfl
theorem tst_u {b : Bool} {p q : Prop} {t : Tag (p, q)} : tst (.tup []) b p q t = q := rfl
theorem tst_f {c : Bool} {p q : Prop} {t : Tag (p, q)} : tst (.bool c) false p q t = ifB c q p ⟨⟩ := by cases c <;> rfl

theorem L_nil {st : St} : wpL X [] K st = K st := nr rfl
theorem L_none {k : AK} {st : St} : wpL X (⟨d, none, k⟩ :: r) K st = opP X d k (wpL X r K) st := nr rfl
theorem L_some {k : AK} {s : Nat} {b : Bool} : wpL X (⟨d, some (s, b), k⟩ :: r) K ⟨env, loc, h, n⟩ = tst (getJ env s) b (opP X d k (wpL X r K) ⟨env, loc, h, n⟩) (wpL X r K ⟨putE env d (.tup []), loc, h, n⟩) ⟨⟩ := by
  simp only [wpL, wantedA, ← getJ_eq, tst]
  cases hg : get env s with
  | none => rfl
  | some x =>
    cases x <;> first | rfl | skip
    · rename_i c
      simp only [Option.getD_some, W]
      cases c <;> cases b <;> first | rfl | skip
      all_goals
        simp only [St.app, sets_dst]
        simp [opP, wpO, sets]
    · rename_i vs
      cases vs <;> first | rfl | skip
      simp only [Option.getD_some, W, Bool.false_eq_true, if_false, St.app, sets_dst]
      rfl
theorem D_nil {st : St} : wpLD X [] K st = K st := nr rfl
theorem D_none {k : AK} {st : St} : wpLD X (⟨d, none, k⟩ :: r) K st = opD X d k (wpLD X r K) st := nr rfl
theorem D_some {k : AK} {s : Nat} {b : Bool} : wpLD X (⟨d, some (s, b), k⟩ :: r) K ⟨env, loc, h, n⟩ = tst (getJ env s) b (opD X d k (wpLD X r K) ⟨env, loc, h, n⟩) (wpLD X r K ⟨putE env d (.tup []), loc, h, n⟩) ⟨⟩ := by
  simp only [wpLD, wantedA, ← getJ_eq, tst]
  cases hg : get env s with
  | none => rfl
  | some x =>
    cases x <;> first | rfl | skip
    · rename_i c
      simp only [Option.getD_some, W]
      cases c <;> cases b <;> first | rfl | skip
      all_goals
        simp only [St.app, sets_dst]
        simp [opD, wpOD, sets]
    · rename_i vs
      cases vs <;> first | rfl | skip
      simp only [Option.getD_some, W, Bool.false_eq_true, if_false, St.app, sets_dst]
      rfl
theorem P_p {f : PK} {args : List Opd} {next : St → Prop} : opP X d (.p f args) next ⟨env, loc, h, n⟩ = WK (pf f (evsE env args)) (fun y => next ⟨putE (mvE env args env) d y, loc, h, n⟩) ⟨⟩ := by
  simp only [opP, wpO, eff, W_map, evs_eq, app_mv]
  rfl
theorem D_p {f : PK} {args : List Opd} {next : St → Prop} : opD X d (.p f args) next ⟨env, loc, h, n⟩ = WK (pf f (evsE env args)) (fun y => next ⟨putE (mvE env args env) d y, loc, h, n⟩) ⟨⟩ := by
  simp only [opD, wpOD, eff, W_map, evs_eq, app_mv]
  rfl
theorem P_a {f : AF} {args : List Opd} {next : St → Prop} : opP X d (.a f args) next ⟨env, loc, h, n⟩ = WK (af f (evsE env args)) (fun y => next ⟨putE (mvE env args env) d y, loc, h, n⟩) ⟨⟩ := by
  simp only [opP, wpO, eff, W_map, evs_eq, app_mv]
  rfl
theorem D_a {f : AF} {args : List Opd} {next : St → Prop} : opD X d (.a f args) next ⟨env, loc, h, n⟩ = WK (af f (evsE env args)) (fun y => next ⟨putE (mvE env args env) d y, loc, h, n⟩) ⟨⟩ := by
  simp only [opD, wpOD, eff, W_map, evs_eq, app_mv]
  rfl
theorem P_call {f v : Nat} {args : List Opd} {next : St → Prop} : opP X d (.call f v args) next ⟨env, loc, h, n⟩ = CallA X f v (evsE env args) (fun y => next ⟨putE (mvE env args env) d y, loc, h, n⟩) ⟨⟩ := by
  simp only [opP, wpO, CallA, evs_eq, app_mv]
theorem D_call {f v : Nat} {args : List Opd} {next : St → Prop} : opD X d (.call f v args) next ⟨env, loc, h, n⟩ = CallD X f v (evsE env args) (fun y => next ⟨putE (mvE env args env) d y, loc, h, n⟩) ⟨⟩ := by
  simp only [opD, wpOD, CallD, evs_eq, app_mv]
def exW (x : V) (p : Prop) (t : Tag p) : Prop := match x with | .tup _ => False | _ => p
@[congr] theorem exW_congr {x x' : V} {p : Prop} {t : Tag p} (h : x = x') : exW x p t = exW x' p t := by rw [h]
def exV (env : List (Nat × V)) (s i : Nat) (d : Option Nat) (x : V) (k : List (Nat × V) → Prop) (t : Tag k) : Prop := match x with
  | .tup vs => WK vs[i]? (fun y => exW y (k (putE (set env s (.tup (vs.set i .junk))) d y)) ⟨⟩) ⟨⟩
  | _ => False
@[congr] theorem exV_congr {s i : Nat} {x x' : V} {k : List (Nat × V) → Prop} {t : Tag k} (h : x = x') : exV env s i d x k t = exV env s i d x' k t := by rw [h]
theorem exV_tup {s i : Nat} {vs : List V} {k : List (Nat × V) → Prop} {t : Tag k} : exV env s i d (.tup vs) k t = WK vs[i]? (fun y => exW y (k (putE (set env s (.tup (vs.set i .junk))) d y)) ⟨⟩) ⟨⟩ := nr rfl
theorem exW_bool {b : Bool} {p : Prop} {t : Tag p} : exW (.bool b) p t = p := nr rfl
theorem exW_int {k : IntKind} {n : Int} {p : Prop} {t : Tag p} : exW (.int k n) p t = p := nr rfl
theorem exW_str {s : List UInt8} {p : Prop} {t : Tag p} : exW (.str s) p t = p := nr rfl
theorem exW_agg {s : List V} {p : Prop} {t : Tag p} : exW (.agg s) p t = p := nr rfl
theorem exW_sl {o : Bool} {z : Nat} {s : List V} {p : Prop} {t : Tag p} : exW (.sl o z s) p t = p := nr rfl
theorem exW_nili {p : Prop} {t : Tag p} : exW .nili p t = p := nr rfl
theorem exW_nilp {p : Prop} {t : Tag p} : exW .nilp p t = p := nr rfl
theorem exW_nilm {p : Prop} {t : Tag p} : exW .nilm p t = p := nr rfl
theorem exW_iface {u : TypeId} {x : V} {p : Prop} {t : Tag p} : exW (.iface u x) p t = p := nr rfl
theorem exW_hm {b : Nat} {p : Prop} {t : Tag p} : exW (.hm b) p t = p := nr rfl
theorem exW_hs {b z o m : Nat} {p : Prop} {t : Tag p} : exW (.hs b z o m) p t = p := nr rfl
def boxW (y : V) (k : List V → Prop) : Prop := Req (solid y = true ∧ y.cells.all okCell = true) (k y.cells)
@[congr] theorem boxW_congr {y y' : V} {k : List V → Prop} (h : y = y') : boxW y k = boxW y' k := by rw [h]
def inF (m : Nat) (x y : V) (k : V → Prop) : Prop := match x with | .raw j => Req (j = m ∧ y.cells.length = m ∧ y.cells.all okCell = true ∧ y.cells.all noH1 = true ∧ solid y = true) (k (.fptr (y.cells.map clr1) 0)) | _ => False
@[congr] theorem inF_congr {m : Nat} {x x' y y' : V} {k : V → Prop} (h : x = x') (h2 : y = y') : inF m x y k = inF m x' y' k := by rw [h, h2]
theorem inF_raw {j m : Nat} {y : V} {k : V → Prop} : inF m (.raw j) y k = Req (j = m ∧ y.cells.length = m ∧ y.cells.all okCell = true ∧ y.cells.all noH1 = true ∧ solid y = true) (k (.fptr (y.cells.map clr1) 0)) := nr rfl
def ldF (b' : Nat) (cs : List V) (nn : Option Nat) (x : V) (k : V → Prop) : Prop := match x with | .ptr b _ i off => Req (b = b' ∧ i = 0) (WK (part cs off nn) (fun y => k (clr y)) ⟨⟩) | _ => False
@[congr] theorem ldF_congr {b' : Nat} {cs : List V} {nn : Option Nat} {x x' : V} {k : V → Prop} (h : x = x') : ldF b' cs nn x k = ldF b' cs nn x' k := by rw [h]
theorem ldF_ptr {b b' z i off : Nat} {cs : List V} {nn : Option Nat} {k : V → Prop} : ldF b' cs nn (.ptr b z i off) k = Req (b = b' ∧ i = 0) (WK (part cs off nn) (fun y => k (clr y)) ⟨⟩) := nr rfl
def ldT (b' : Nat) (cs : List V) (x : V) (k : V → List V → Prop) : Prop := match x with | .ptr b _ i off => Req (b = b' ∧ i = 0) (WK cs[off]? (fun c => Req (okCell c = true) (k c (cs.set off (clr1 c)))) ⟨⟩) | _ => False
@[congr] theorem ldT_congr {b' : Nat} {cs : List V} {x x' : V} {k : V → List V → Prop} (h : x = x') : ldT b' cs x k = ldT b' cs x' k := by rw [h]
theorem ldT_ptr {b b' z i off : Nat} {cs : List V} {k : V → List V → Prop} : ldT b' cs (.ptr b z i off) k = Req (b = b' ∧ i = 0) (WK cs[off]? (fun c => Req (okCell c = true) (k c (cs.set off (clr1 c)))) ⟨⟩) := nr rfl
def stF (b' : Nat) (cs : List V) (n : Nat) (x y : V) (k : List V → Prop) : Prop := match x with | .ptr b _ i off => Req (b = b' ∧ i = 0 ∧ y.cells.length = n ∧ off + n ≤ cs.length ∧ solid y = true ∧ y.cells.all okCell = true) (k (cs.take off ++ y.cells ++ cs.drop (off + n))) | _ => False
@[congr] theorem stF_congr {b' n : Nat} {cs : List V} {x x' y y' : V} {k : List V → Prop} (h : x = x') (h2 : y = y') : stF b' cs n x y k = stF b' cs n x' y' k := by rw [h, h2]
theorem stF_ptr {b b' z i off n : Nat} {cs : List V} {y : V} {k : List V → Prop} : stF b' cs n (.ptr b z i off) y k = Req (b = b' ∧ i = 0 ∧ y.cells.length = n ∧ off + n ≤ cs.length ∧ solid y = true ∧ y.cells.all okCell = true) (k (cs.take off ++ y.cells ++ cs.drop (off + n))) := nr rfl
theorem P_extr {s i : Nat} {next : St → Prop} : opP X d (.extr s i) next ⟨env, loc, h, n⟩ = exV env s i d (getJ env s) (fun e => next ⟨e, loc, h, n⟩) ⟨⟩ := by
  simp only [opP, wpO, eff, exV, ← getJ_eq]
  cases get env s with
  | none => rfl
  | some x =>
    cases x <;> first | rfl | skip
    rename_i vs
    simp only [Option.getD_some]
    cases vs[i]? with
    | none => rfl
    | some y => cases y <;> first | rfl | (simp only [Option.bind_some, W, WK, exW, St.app, sets, List.foldl_cons]; rw [← sets_dst]; rfl)
theorem D_extr {s i : Nat} {next : St → Prop} : opD X d (.extr s i) next ⟨env, loc, h, n⟩ = exV env s i d (getJ env s) (fun e => next ⟨e, loc, h, n⟩) ⟨⟩ := by
  simp only [opD, wpOD, eff, exV, ← getJ_eq]
  cases get env s with
  | none => rfl
  | some x =>
    cases x <;> first | rfl | skip
    rename_i vs
    simp only [Option.getD_some]
    cases vs[i]? with
    | none => rfl
    | some y => cases y <;> first | rfl | (simp only [Option.bind_some, W, WK, exW, St.app, sets, List.foldl_cons]; rw [← sets_dst]; rfl)
theorem P_box {s : Nat} {x : Opd} {next : St → Prop} : opP X d (.box s x) next ⟨env, loc, h, n⟩ = boxW (evE env x) fun cs => next ⟨putE (mvE env [x] env) d (.ptr n cs.length 0 0), set loc s (n, cs), h, n + 1⟩ := by
  simp only [opP, wpO, eff, ev_eq, boxW]
  rw [W_ite]
  simp only [W_some, St.app, sets_app, sets_moves, sets_dst]
  rfl
theorem D_box {s : Nat} {x : Opd} {next : St → Prop} : opD X d (.box s x) next ⟨env, loc, h, n⟩ = boxW (evE env x) fun cs => next ⟨putE (mvE env [x] env) d (.ptr n cs.length 0 0), set loc s (n, cs), h, n + 1⟩ := by
  simp only [opD, wpOD, eff, ev_eq, boxW]
  rw [W_ite]
  simp only [W_some, St.app, sets_app, sets_moves, sets_dst]
  rfl
theorem P_ldF {s : Nat} {p : Opd} {nn : Option Nat} {next : St → Prop} : opP X d (.loadL s p nn false) next ⟨env, loc, h, n⟩ = WK (get loc s) (fun q => ldF q.1 q.2 nn (evE env p) fun y => next ⟨putE env d y, loc, h, n⟩) ⟨⟩ := by
  simp only [opP, wpO, eff, ev_eq]
  cases get loc s with
  | none => cases evE env p <;> rfl
  | some q =>
    simp only [WK, W_some]
    cases evE env p <;> first | rfl | skip
    simp only [ldF, WK]
    rw [W_ite, W_map]
    simp only [St.app, sets_dst]
    rfl
theorem D_ldF {s : Nat} {p : Opd} {nn : Option Nat} {next : St → Prop} : opD X d (.loadL s p nn false) next ⟨env, loc, h, n⟩ = WK (get loc s) (fun q => ldF q.1 q.2 nn (evE env p) fun y => next ⟨putE env d y, loc, h, n⟩) ⟨⟩ := by
  simp only [opD, wpOD, eff, ev_eq]
  cases get loc s with
  | none => cases evE env p <;> rfl
  | some q =>
    simp only [WK, W_some]
    cases evE env p <;> first | rfl | skip
    simp only [ldF, WK]
    rw [W_ite, W_map]
    simp only [St.app, sets_dst]
    rfl
theorem P_ldT {s : Nat} {p : Opd} {next : St → Prop} : opP X d (.loadL s p none true) next ⟨env, loc, h, n⟩ = WK (get loc s) (fun q => ldT q.1 q.2 (evE env p) fun y cs => next ⟨putE env d y, set loc s (q.1, cs), h, n⟩) ⟨⟩ := by
  simp only [opP, wpO, eff, ev_eq]
  cases get loc s with
  | none => cases evE env p <;> rfl
  | some q =>
    simp only [WK, W_some]
    cases evE env p <;> first | rfl | skip
    simp only [ldT, WK]
    rw [W_ite, W_bind]
    simp only [W_ite, W_some, St.app, sets_dst]
    rfl
theorem D_ldT {s : Nat} {p : Opd} {next : St → Prop} : opD X d (.loadL s p none true) next ⟨env, loc, h, n⟩ = WK (get loc s) (fun q => ldT q.1 q.2 (evE env p) fun y cs => next ⟨putE env d y, set loc s (q.1, cs), h, n⟩) ⟨⟩ := by
  simp only [opD, wpOD, eff, ev_eq]
  cases get loc s with
  | none => cases evE env p <;> rfl
  | some q =>
    simp only [WK, W_some]
    cases evE env p <;> first | rfl | skip
    simp only [ldT, WK]
    rw [W_ite, W_bind]
    simp only [W_ite, W_some, St.app, sets_dst]
    rfl
theorem P_st {s m : Nat} {p x : Opd} {next : St → Prop} : opP X d (.storeL s m p x) next ⟨env, loc, h, n⟩ = WK (get loc s) (fun q => stF q.1 q.2 m (evE env p) (evE env x) fun cs => next ⟨putE (mvE env [x] env) d .junk, set loc s (q.1, cs), h, n⟩) ⟨⟩ := by
  simp only [opP, wpO, eff, ev_eq]
  cases get loc s with
  | none => cases evE env p <;> rfl
  | some q =>
    simp only [WK, W_some]
    cases evE env p <;> first | rfl | skip
    simp only [stF]
    rw [W_ite]
    simp only [W_some, St.app, sets_app, sets_moves, sets_dst]
    rfl
theorem D_st {s m : Nat} {p x : Opd} {next : St → Prop} : opD X d (.storeL s m p x) next ⟨env, loc, h, n⟩ = WK (get loc s) (fun q => stF q.1 q.2 m (evE env p) (evE env x) fun cs => next ⟨putE (mvE env [x] env) d .junk, set loc s (q.1, cs), h, n⟩) ⟨⟩ := by
  simp only [opD, wpOD, eff, ev_eq]
  cases get loc s with
  | none => cases evE env p <;> rfl
  | some q =>
    simp only [WK, W_some]
    cases evE env p <;> first | rfl | skip
    simp only [stF]
    rw [W_ite]
    simp only [W_some, St.app, sets_app, sets_moves, sets_dst]
    rfl
theorem P_init {s m : Nat} {x : Opd} {next : St → Prop} : opP X d (.init s m x) next ⟨env, loc, h, n⟩ = inF m (getJ env s) (evE env x) fun y => next ⟨putE (mvE env [x] env) (some s) y, loc, h, n⟩ := by
  simp only [opP, wpO, eff, ev_eq, ← getJ_eq]
  cases get env s with
  | none => rfl
  | some x =>
    cases x <;> first | rfl | skip
    simp only [Option.getD_some, inF]
    rw [W_ite]
    simp only [W_some, St.app, sets_app, sets_moves]
    rfl
theorem D_init {s m : Nat} {x : Opd} {next : St → Prop} : opD X d (.init s m x) next ⟨env, loc, h, n⟩ = inF m (getJ env s) (evE env x) fun y => next ⟨putE (mvE env [x] env) (some s) y, loc, h, n⟩ := by
  simp only [opD, wpOD, eff, ev_eq, ← getJ_eq]
  cases get env s with
  | none => rfl
  | some x =>
    cases x <;> first | rfl | skip
    simp only [Option.getD_some, inF]
    rw [W_ite]
    simp only [W_some, St.app, sets_app, sets_moves]
    rfl
theorem P_h {f : HK} {args : List Opd} {next : St → Prop} : opP X d (.h f args) next ⟨env, loc, h, n⟩ = WK (hf f (evsE env args) h n) (fun q => next ⟨putE (mvE env args env) d q.1, loc, q.2.1, n + q.2.2⟩) ⟨⟩ := by
  simp only [opP, wpO, eff, W_map, evs_eq, WK, St.app, sets_app, sets_moves, sets_dst, Option.getD_some]
  rfl
theorem D_h {f : HK} {args : List Opd} {next : St → Prop} : opD X d (.h f args) next ⟨env, loc, h, n⟩ = WK (hf f (evsE env args) h n) (fun q => next ⟨putE (mvE env args env) d q.1, loc, q.2.1, n + q.2.2⟩) ⟨⟩ := by
  simp only [opD, wpOD, eff, W_map, evs_eq, WK, St.app, sets_app, sets_moves, sets_dst, Option.getD_some]
  rfl
theorem P_callH {v : Nat} {x : Opd} {args : List Opd} {next : St → Prop} : opP X d (.callH v x args) next ⟨env, loc, h, n⟩ = CallH X v (evE env x) (evsE env args) h n (fun r h' m => next ⟨putE (mvE env args env) d r, loc, h', n + (m - n)⟩) ⟨⟩ := by
  simp only [opP, wpO, CallH, evs_eq, ev_eq, St.app, sets_app, sets_moves, sets_dst, Option.getD_some]
  rfl
theorem D_callH {v : Nat} {x : Opd} {args : List Opd} {next : St → Prop} : opD X d (.callH v x args) next ⟨env, loc, h, n⟩ = CallHD X v (evE env x) (evsE env args) h n (fun r h' m => next ⟨putE (mvE env args env) d r, loc, h', n + (m - n)⟩) ⟨⟩ := by
  simp only [opD, wpOD, CallHD, evs_eq, ev_eq, St.app, sets_app, sets_moves, sets_dst, Option.getD_some]
  rfl

/-! ### Code -/
def seqQ (X : Sem3) (b : AC) (Q : AE → St → Prop) (e : AE) (st : St) : Prop := match e with | .normal => wpC X b Q st | e => Q e st
def cutQ (ke kl : List Nat) (Q : AE → St → Prop) (e : AE) (st : St) : Prop := match e with | .normal => Q .normal (st.norm ke kl) | e => Q e st
def blkQ (id : Nat) (Q : AE → St → Prop) (e : AE) (st : St) : Prop := match e with | .exit i => if i = id then Q .normal st else Q (.exit i) st | e => Q e st
def loopQ (L : St → Prop) (ke kl : List Nat) (Q : AE → St → Prop) (e : AE) (st : St) : Prop := match e with | .normal => L (st.norm ke kl) | e => Q e st
@[congr] theorem seqQ_st {b : AC} {e : AE} {st st' : St} (h : st = st') : seqQ X b Q e st = seqQ X b Q e st' := by rw [h]
@[congr] theorem cutQ_st {ke kl : List Nat} {e : AE} {st st' : St} (h : st = st') : cutQ ke kl Q e st = cutQ ke kl Q e st' := by rw [h]
@[congr] theorem blkQ_st {id : Nat} {e : AE} {st st' : St} (h : st = st') : blkQ id Q e st = blkQ id Q e st' := by rw [h]
@[congr] theorem loopQ_st {L : St → Prop} {ke kl : List Nat} {e : AE} {st st' : St} (h : st = st') : loopQ L ke kl Q e st = loopQ L ke kl Q e st' := by rw [h]
theorem seqQ_n {b : AC} {st : St} : seqQ X b Q .normal st = wpC X b Q st := nr rfl
theorem seqQ_x {b : AC} {i : Nat} {st : St} : seqQ X b Q (.exit i) st = Q (.exit i) st := nr rfl
theorem seqQ_r {b : AC} {st : St} : seqQ X b Q .ret st = Q .ret st := nr rfl
theorem cutQ_n {ke kl : List Nat} : cutQ ke kl Q .normal ⟨env, loc, h, n⟩ = Q .normal ⟨keep ke env, keep kl loc, h, n⟩ := nr rfl
theorem cutQ_x {ke kl : List Nat} {i : Nat} {st : St} : cutQ ke kl Q (.exit i) st = Q (.exit i) st := nr rfl
theorem cutQ_r {ke kl : List Nat} {st : St} : cutQ ke kl Q .ret st = Q .ret st := nr rfl
theorem blkQ_n {id : Nat} {st : St} : blkQ id Q .normal st = Q .normal st := nr rfl
theorem blkQ_x {id i : Nat} {st : St} : blkQ id Q (.exit i) st = if i = id then Q .normal st else Q (.exit i) st := nr rfl
theorem blkQ_r {id : Nat} {st : St} : blkQ id Q .ret st = Q .ret st := nr rfl
theorem loopQ_n {L : St → Prop} {ke kl : List Nat} : loopQ L ke kl Q .normal ⟨env, loc, h, n⟩ = L ⟨keep ke env, keep kl loc, h, n⟩ := nr rfl
theorem loopQ_x {L : St → Prop} {ke kl : List Nat} {i : Nat} {st : St} : loopQ L ke kl Q (.exit i) st = Q (.exit i) st := nr rfl
theorem loopQ_r {L : St → Prop} {ke kl : List Nat} {st : St} : loopQ L ke kl Q .ret st = Q .ret st := nr rfl
theorem C_skip {st : St} : wpC X .skip Q st = Q .normal st := nr rfl
theorem C_ret {st : St} : wpC X .ret Q st = Q .ret st := nr rfl
theorem C_exit {i : Nat} {st : St} : wpC X (.exit i) Q st = Q (.exit i) st := nr rfl
theorem C_reg {l : List AOp} {st : St} : wpC X (.reg false l) Q st = wpL X l (Q .normal) st := nr rfl
theorem C_regD {l : List AOp} {st : St} : wpC X (.reg true l) Q st = wpLD X l (Q .normal) st := nr rfl
theorem C_seq {a b : AC} {st : St} : wpC X (.seq a b) Q st = wpC X a (seqQ X b Q) st := nr rfl
theorem C_cut {ke kl : List Nat} {a : AC} {st : St} : wpC X (.cut ke kl a) Q st = wpC X a (cutQ ke kl Q) st := nr rfl
theorem C_block {i : Nat} {a : AC} {st : St} : wpC X (.block i a) Q st = wpC X a (blkQ i Q) st := nr rfl
def cndW (x : V) (p q : Prop) (t : Tag (p, q)) : Prop := match x with | .bool c => ifB c p q t | _ => False
@[congr] theorem cndW_congr {x x' : V} {p q : Prop} {t : Tag (p, q)} (h : x = x') : cndW x p q t = cndW x' p q t := by rw [h]
theorem cndW_bool {c : Bool} {p q : Prop} {t : Tag (p, q)} : cndW (.bool c) p q t = ifB c p q t := nr rfl
theorem C_cond {x : Opd} {a b : AC} : wpC X (.cond x a b) Q ⟨env, loc, h, n⟩ = cndW (evE env x) (wpC X a Q ⟨env, loc, h, n⟩) (wpC X b Q ⟨env, loc, h, n⟩) ⟨⟩ := by
  simp only [wpC, ev_eq]
  cases evE env x <;> rfl
theorem loop_intro {ke kl : List Nat} {c : AC} (hh : ∀ L : St → Prop, (∀ st, wpC X c (loopQ L ke kl Q) st → L st) → L ⟨keep ke env, keep kl loc, h, n⟩) : wpC X (.loop ke kl c) Q ⟨env, loc, h, n⟩ := fun L hL => hh L hL

/-- A function's ending. -/
def endQ (res : List ARes) (Q : V → Heap → Nat → Prop) (e : AE) (st : St) : Prop := match e with | .normal | .ret => W (resL st res) fun rs => Q (outV rs) st.heap st.ctr | _ => False
@[congr] theorem endQ_st {res : List ARes} {Q : V → Heap → Nat → Prop} {e : AE} {st st' : St} (h : st = st') : endQ res Q e st = endQ res Q e st' := by rw [h]
def ldR (b' : Nat) (cs : List V) (nn : Option Nat) (x : V) (k : V → Prop) : Prop := match x with | .ptr b _ 0 0 => Req (b = b') (WK (part cs 0 nn) (fun y => k (clr y)) ⟨⟩) | _ => False
@[congr] theorem ldR_congr {b' : Nat} {cs : List V} {nn : Option Nat} {x x' : V} {k : V → Prop} (h : x = x') : ldR b' cs nn x k = ldR b' cs nn x' k := by rw [h]
theorem ldR_ptr {b b' z : Nat} {cs : List V} {nn : Option Nat} {k : V → Prop} : ldR b' cs nn (.ptr b z 0 0) k = Req (b = b') (WK (part cs 0 nn) (fun y => k (clr y)) ⟨⟩) := nr rfl
def resE (env : List (Nat × V)) (loc : List (Nat × (Nat × List V))) : List ARes → (List V → Prop) → Prop
  | [], k => k []
  | .t n :: r, k => WK (get env n) (fun x => resE env loc r fun xs => k (x :: xs)) ⟨⟩
  | .cell n s m :: r, k => WK (get loc s) (fun q => ldR q.1 q.2 m (getJ env n) fun x => resE env loc r fun xs => k (x :: xs)) ⟨⟩
@[congr] theorem resE_congr {l : List ARes} {env env' : List (Nat × V)} {loc loc' : List (Nat × (Nat × List V))} {k : List V → Prop} (h : env = env') (h2 : loc = loc') : resE env loc l k = resE env' loc' l k := by rw [h, h2]
theorem resE_nil {k : List V → Prop} : resE env loc [] k = k [] := nr rfl
theorem resE_t {m : Nat} {r : List ARes} {k : List V → Prop} : resE env loc (.t m :: r) k = WK (get env m) (fun x => resE env loc r fun xs => k (x :: xs)) ⟨⟩ := nr rfl
theorem resE_cell {m s : Nat} {j : Option Nat} {r : List ARes} {k : List V → Prop} : resE env loc (.cell m s j :: r) k = WK (get loc s) (fun q => ldR q.1 q.2 j (getJ env m) fun x => resE env loc r fun xs => k (x :: xs)) ⟨⟩ := nr rfl
theorem resE_eq : ∀ {res : List ARes} {k : List V → Prop}, W (resL ⟨env, loc, h, n⟩ res) k = resE env loc res k
  | [], k => rfl
  | .t m :: r, k => by
    simp only [resE, resL, resV, WK]
    cases hg : get env m with
    | none => rfl
    | some x => rw [Option.bind_some, W_map]; exact resE_eq
  | .cell m s j :: r, k => by
    simp only [resE, resL, resV, WK]
    rw [← getJ_eq]
    cases hm : get env m with
    | none => cases get loc s <;> rfl
    | some x =>
      cases hg : get loc s with
      | none => cases x <;> simp [W]
      | some q =>
        simp only [W_some, Option.getD_some]
        have ih : ∀ y, W (Option.map (fun x => y :: x) (resL ⟨env, loc, h, n⟩ r)) k = resE env loc r fun xs => k (y :: xs) := fun y => by rw [W_map]; exact resE_eq
        cases x <;> simp only [ldR, WK] <;> first | rfl | skip
        rename_i b z i off
        cases i with
        | succ i => rfl
        | zero =>
          cases off with
          | succ off => rfl
          | zero =>
            simp only []
            by_cases hb : b = q.1
            · rw [if_pos hb, W_bind, W_map]
              simp only [ih, Req, hb, true_and]
            · rw [if_neg hb]
              simp [W, Req, hb]
theorem endQ_n {res : List ARes} {Q : V → Heap → Nat → Prop} : endQ res Q .normal ⟨env, loc, h, n⟩ = resE env loc res fun rs => Q (outV rs) h n := resE_eq
theorem endQ_r {res : List ARes} {Q : V → Heap → Nat → Prop} : endQ res Q .ret ⟨env, loc, h, n⟩ = resE env loc res fun rs => Q (outV rs) h n := resE_eq
theorem outV_one {x : V} : outV [x] = x := nr rfl
theorem outV_two {x y : V} {r : List V} : outV (x :: y :: r) = .tup (x :: y :: r) := nr rfl

/-- A function is entered. -/
theorem run_enter {T : Tab} {f v : Nat} {F : AFun} {args : List V} {hp : Heap} {n : Nat} {Q : V → Heap → Nat → Prop} (hT : T.fn f v = some F) (hl : args.length = F.np) (hh : wpC (Run T) F.code (endQ F.res Q) ⟨initE 0 args, [], hp, n⟩) : Run T f v args hp n Q := by
  apply Run.fold
  right
  rw [hT]
  exact ⟨hl, hh⟩

end
end Go.Proofs.Ytnodepfoahmcmaa.E
