/- The engine, bundle 2: values as trees, abstract code, and that what abstract code says the machine does. Conditions: none. -/
import Derived.MapKept
import Derived.Test.YtnodepfoahmcmaaE1
/- The engine, part Q: literals of slices, make; all that makes rows. Conditions: none. -/
namespace Go.Proofs.Ytnodepfoahmcmaa.E
set_option linter.unusedVariables false
set_option linter.unusedSimpArgs false

section
variable {P : Program} {w : World} {G : Nat → Nat} {φ : Nat → Option Nat} {ρ : Operand → Value} {o : Oper} {y : V} {xs : List V}

theorem run_zeroValue' {t : TypeId} {i : TypeInfo} {z : Value} (h : P.info? t = some i) (hz : i.zero = some z) (w : World) : (zeroValue t).run P w = .ok z w := by
  unfold zeroValue
  rw [Sem.run_bind, run_typeInfo h, Result.andThen_ok, hz]
  rfl

/-- A repeated row of cells, as trees. -/
theorem rep_cells {p : V → Value → Prop} {zero : List V} {z : Array Value} {n sz : Nat} {e : V} (he : e.cells = zero) (hz : PCells p zero z) (hsz : zero.length = sz) : PCells p ((List.replicate n e).flatMap V.cells) ((Array.range (n * sz)).map (z[· % z.size]!)) := by
  have hzs : z.size = sz := by rw [hz.1, hsz]
  have hall : ∀ x ∈ List.replicate n e, x.cells.length = sz := fun x hx => by rw [(List.mem_replicate.1 hx).2, he, hsz]
  obtain ⟨h1, h2⟩ := flatMap_get (sz := sz) (List.replicate n e) hall
  rw [List.length_replicate] at h1
  refine ⟨by rw [h1]; simp, fun k hk => ?_⟩
  have hk' : k < n * sz := by rw [h1] at hk; exact hk
  have hs : 0 < sz := by
    rcases Nat.eq_zero_or_pos sz with e0 | e0
    · subst e0; simp at hk'
    · exact e0
  have hi : k / sz < n := (Nat.div_lt_iff_lt_mul hs).2 hk'
  have hj : k % sz < sz := Nat.mod_lt _ hs
  have hkk : k / sz * sz + k % sz = k := by rw [Nat.mul_comm]; exact Nat.div_add_mod k sz
  have hj2 : k % sz < zero.length := by rw [hsz]; exact hj
  have hi2 : k / sz < (List.replicate n e).length := by rw [List.length_replicate]; exact hi
  have e1 : ((List.replicate n e).flatMap V.cells)[k] = zero[k % sz] := by
    have := h2 (k / sz) (k % sz) hi2 (by rw [List.getElem_replicate, he]; exact hj2) (by rw [hkk]; exact hk)
    simp only [hkk, List.getElem_replicate, he] at this
    exact this
  have e2 : ((Array.range (n * sz)).map (z[· % z.size]!)).getD k undef = z.getD (k % sz) undef := by
    have := zeros_get z n sz hzs (k / sz) (k % sz) hi hj
    rw [hkk] at this
    exact this
  rw [e1, e2]
  exact hz.2 _ hj2

theorem ok_bslice {sz len : Nat} {zero : List V} {parts : List Nat} (hk : okAF P o.op (.bslice sz len zero parts) = true) (hx : All2 (R w G φ) xs ((opArgs o.op).map ρ)) (ht : ∀ p ∈ xs.zip ((opArgs o.op).map ρ), Tail w G p.1 p.2) (hg : ∀ b, w.heap.size ≤ b → G b = 0) (hy : af (.bslice sz len zero parts) xs = some y) : Makes P w G φ ρ o xs y := by
  unfold Makes
  cases hop : o.op <;> rw [hop] at hk <;> first | (cases hk; done) | skip
  rename_i t n ps
  rw [hop] at hx ht
  simp only [okAF, Bool.and_eq_true, beq_iff_eq] at hk
  obtain ⟨⟨⟨rfl, k2⟩, k3⟩, k4⟩ := hk
  obtain ⟨e, hu, hsz⟩ := slIs_spec k2
  rw [hu] at k3
  simp only at k3
  unfold zeroIs at k3
  split at k3 <;> first | (cases k3; done) | skip
  rename_i it hit
  split at k3 <;> first | (cases k3; done) | skip
  rename_i z hz
  simp only [af] at hy
  split at hy <;> first | (cases hy; done) | skip
  rename_i hb
  obtain ⟨b1, b2, b3⟩ := hb
  obtain ⟨l, hf, rfl⟩ := Option.map_eq_some_iff.1 hy
  obtain ⟨c1, c2⟩ := ofCells_cells b2 b3
  have hz0 : PCells (R0 w G fun _ => none) zero z.cells := okCL_cells k3
  have hrep := rep_cells (n := n) c1 hz0 b2
  obtain ⟨f1, f2, f3, f4⟩ := fillE_fillP parts xs (List.replicate n (ofCells sz zero)) l (fun x hx => by rw [(List.mem_replicate.1 hx).2, c1]; exact ⟨b2, c2⟩) hf
  rw [List.length_replicate] at f3
  simp only [opArgs] at hx ht ⊢
  have hx' : All2 (R w G fun _ => none) xs ((ps.toList.map fun p => (p.1, ρ p.2)).map (·.2)) := by
    rw [List.map_map] at hx ⊢
    have key : ∀ {xs : List V} {vs : List Value}, (∀ x ∈ xs, noH2 x = true) → All2 (R w G φ) xs vs → All2 (R w G fun _ => none) xs vs := by
      intro xs vs hn h
      induction h with
      | nil => exact .nil
      | cons h t ih => exact .cons (h.noH2 (hn _ (by simp))) (ih fun x hx => hn x (by simp [hx]))
    exact key f4 hx
  obtain ⟨cells', h1, h2⟩ := fill_ok (place := fun i => some (i * sz, sz)) (ps.toList.map fun p => (p.1, ρ p.2)) (parts.map fun i => (i * sz, sz)) xs _ _ _ hrep (by
    rw [← k4]; simp [List.map_map, Function.comp_def]) hx' f1
  obtain ⟨m1, m2⟩ := flatMap_get (sz := sz) l fun x hx => (f2 x hx).1
  have hsize : cells'.size = l.length * sz := by rw [h2.1, m1]
  have hrun : (Instr.buildSlice t n (ps.map fun x => match x with | (i, x) => (i, ρ x))).run P w = .ok (.slice (some ⟨w.heap.size, 0, none⟩) l.length l.length) (w.alloc (.cells cells' e)) := by
    have hfl : ∀ zr : Array Value, (n * sz = 0 ∨ zr = z.cells) → Instr.fill (fun i => some (i * sz, sz)) ((Array.range (n * sz)).map (zr[· % zr.size]!)) (ps.map fun x => match x with | (i, x) => (i, ρ x)).toList = some cells' := by
      intro zr hzr
      have e1 : (Array.range (n * sz)).map (zr[· % zr.size]!) = (Array.range (n * sz)).map (z.cells[· % z.cells.size]!) := by
        rcases hzr with h0 | rfl
        · rw [h0]; simp
        · rfl
      rw [e1, ← h1]
      congr 1
      simp
    unfold Instr.buildSlice
    simp only [Sem.run_bind, run_underlying hu, Result.andThen_ok, run_szIs hsz, show ¬ (n * sz > 2 ^ 24) by omega, if_false, Sem.run_pure]
    by_cases h0 : n * sz = 0
    · rw [if_pos h0]
      simp only [Sem.run_bind, Sem.run_pure, Result.andThen_ok]
      rw [hfl _ (.inl h0)]
      simp only [Sem.run_bind, run_newRow, Result.andThen_ok, Sem.run_pure, f3]
    · rw [if_neg h0]
      simp only [Sem.run_bind, Sem.run_pure, Result.andThen_ok, run_zeroValue' hit hz]
      rw [hfl _ (.inr rfl)]
      simp only [Sem.run_bind, run_newRow, Result.andThen_ok, Sem.run_pure, f3]
  refine ⟨_, w.alloc (.cells cells' e), _, (by unfold execOp; rw [hop]; exact exec_vm hrun), Mk.fresh (cs := cells') (el := e) (fr := (0, 0)) rfl rfl rfl (Array.size_push ..) (fun b hb0 => heap_alloc_old w _ hb0) (heap_alloc_new w _) (fun q _ h => by omega) (fun i hi => (f2 _ (List.getElem_mem hi)).1) (fun i j hi hj => ?_) (Nat.le_refl _) (by omega) hg⟩
  have hj' : j < sz := by rw [(f2 _ (List.getElem_mem hi)).1] at hj; exact hj
  have : (i + 1) * sz ≤ l.length * sz := Nat.mul_le_mul_right _ hi
  rw [Nat.succ_mul] at this
  have hlt : i * sz + j < (l.flatMap V.cells).length := by omega
  have hh := h2.2 (i * sz + j) hlt
  rw [m2 i j hi hj hlt] at hh
  refine ⟨hh.1, oneCell_noH1 hh.1 ?_⟩
  have hn := (f2 _ (List.getElem_mem hi)).2
  generalize l[i] = x at hn hj
  cases x with
  | agg cs =>
    simp only [noH2, List.all_eq_true] at hn
    exact hn _ (List.getElem_mem _)
  | _ =>
    simp only [V.cells, List.length_singleton] at hj
    obtain rfl : j = 0 := by omega
    exact hn

theorem ok_mkslice {sz bytes : Nat} {zero : V} (hk : okAF P o.op (.mkslice sz bytes zero) = true) (hx : All2 (R w G φ) xs ((opArgs o.op).map ρ)) (ht : ∀ p ∈ xs.zip ((opArgs o.op).map ρ), Tail w G p.1 p.2) (hg : ∀ b, w.heap.size ≤ b → G b = 0) (hy : af (.mkslice sz bytes zero) xs = some y) : Makes P w G φ ρ o xs y := by
  unfold Makes
  cases hop : o.op <;> rw [hop] at hk <;> first | (cases hk; done) | skip
  rename_i t ol oc
  rw [hop] at hx ht
  simp only [okAF, Bool.and_eq_true] at hk
  obtain ⟨k1, k2⟩ := hk
  obtain ⟨e, i, z, hu, hi, rfl, rfl, hsz0, hz, hzs⟩ := elemIs_spec k1
  rw [hu] at k2
  simp only [hi, hz] at k2
  simp only [af] at hy
  split at hy <;> first | (cases hy; done) | skip
  rename_i kl n kc c
  split at hy <;> first | (cases hy; done) | skip
  rename_i hb
  obtain ⟨b1, b2, b3, b4, b5, b6⟩ := hb
  injection hy with hy; subst hy
  obtain ⟨v1, v2, hv, r1, r2⟩ := all2_2 hx
  simp only [opArgs, List.map_cons, List.map_nil, List.cons.injEq, and_true] at hv ⊢
  cases r1; cases r2
  have hz0 : PCells (R0 w G fun _ => none) zero.cells z.cells := okCL_cells k2
  have hrep := rep_cells (n := c.toNat) (e := zero) rfl hz0 b5
  have hlim : c ≤ 17592186044416 := by unfold LIM at b4; exact b4
  have hlim2 : c.toNat * i.bytes ≤ 17592186044416 := b3
  have hwl : IntKind.i64.wrap n = n := i64_wrap ⟨by omega, by omega⟩
  have hwc : IntKind.i64.wrap c = c := i64_wrap ⟨by omega, by omega⟩
  have hci : (i.bytes : Int) * c = ((c.toNat * i.bytes : Nat) : Int) := by
    rw [Int.natCast_mul, Int.toNat_of_nonneg (by omega), Int.mul_comm]
  obtain ⟨row, hrow⟩ : ∃ row : Array Value, row = (Array.range (c.toNat * i.size)).map (z.cells[· % z.cells.size]!) := ⟨_, rfl⟩
  have hrowsize : row.size = c.toNat * i.size := by rw [hrow]; simp
  have hrun : (Instr.makeSlice t (ρ ol) (ρ oc)).run P w = .ok (.slice (some ⟨w.heap.size, 0, none⟩) n.toNat c.toNat) (w.alloc (.cells row e)) := by
    rw [hv.1, hv.2]
    have e1 : ∀ zr : Array Value, (c.toNat * i.size = 0 ∨ zr = z.cells) → (Array.range (c.toNat * i.size)).map (zr[· % zr.size]!) = row := by
      intro zr hzr
      rw [hrow]
      rcases hzr with h0 | rfl
      · rw [h0]; simp
      · rfl
    have hroom : (askRoom (c.toNat * i.bytes)).run P w = .ok () w := by
      unfold askRoom
      rw [if_neg (by unfold roomBytes; omega)]
      rfl
    have hsz' : szIs P e i.size = true := by unfold szIs; rw [hi]; simp
    unfold Instr.makeSlice
    simp only [Sem.run_bind, run_underlying hu, Result.andThen_ok, asInt, asIntOf, Sem.run_pure, run_typeInfo hi, hwl, hwc]
    have hci2 : (i.bytes : Int) * c ≤ 17592186044416 := by rw [hci]; omega
    rw [if_neg (by simp; omega)]
    simp only [Sem.run_bind, hroom, Result.andThen_ok, run_szIs hsz']
    by_cases h0 : c.toNat * i.size = 0
    · rw [if_pos h0]
      simp only [Sem.run_bind, Sem.run_pure, Result.andThen_ok]
      rw [e1 _ (.inl h0), run_newRow, Result.andThen_ok]
    · rw [if_neg h0]
      simp only [Sem.run_bind, Sem.run_pure, Result.andThen_ok, run_zeroValue' hi hz]
      rw [e1 _ (.inr rfl), run_newRow, Result.andThen_ok]
  have hnn : (List.replicate n.toNat zero).length = n.toNat := List.length_replicate
  rw [← hnn] at hrun
  refine ⟨_, w.alloc (.cells row e), _, (by unfold execOp; rw [hop]; exact exec_vm hrun), Mk.fresh (cs := row) (el := e) (fr := (0, 0)) rfl rfl rfl (Array.size_push ..) (fun b hb0 => heap_alloc_old w _ hb0) (heap_alloc_new w _) (fun q _ h => by omega) (fun k hk => by rw [List.getElem_replicate]; exact b5) (fun k j hk hj => ?_) (by rw [hnn]; omega) (by rw [hrowsize]; exact Nat.le_refl _) hg⟩
  rw [hnn] at hk
  simp only [List.getElem_replicate] at hj ⊢
  have hj' : j < i.size := by rw [b5] at hj; exact hj
  have e2 := zeros_get z.cells c.toNat i.size hzs k j (by omega) hj'
  rw [hrow, e2]
  have := hz0.2 j hj
  refine ⟨this.1, oneCell_noH1 this.1 ?_⟩
  cases zero with
  | agg cs =>
    simp only [noH2, List.all_eq_true] at b6
    exact b6 _ (List.getElem_mem _)
  | _ =>
    simp only [V.cells, List.length_singleton] at hj
    obtain rfl : j = 0 := by omega
    exact b6

/-- All that makes rows. -/
theorem ext_alloc0 (hz : ∀ b, w.heap.size ≤ b → G b = 0) (o : Obj) : Ext w G (w.alloc o) G :=
  ⟨fun _ => Nat.le_refl _, fun b q hq => by
    rcases Nat.lt_or_ge b w.heap.size with h | h
    · exact cell_same (heap_alloc_old w o h) q
    · rw [hz b h] at hq; omega,
    (fun b cs el fr hb => by
      refine ⟨cs, fr, ?_, rfl, .inl rfl⟩
      rcases Nat.lt_or_ge b w.heap.size with h | h
      · rw [heap_alloc_old w o h, hb]
      · rw [Array.getElem?_eq_none h] at hb; exact absurd hb (by simp)),
    (by show _ ≤ (w.heap.push o).size; rw [Array.size_push]; omega), rfl, rfl, rfl⟩

theorem ok_raw {m : Nat} (hk : okAF P o.op (.raw m) = true) (hg : ∀ b, w.heap.size ≤ b → G b = 0) (hy : af (.raw m) xs = some y) : Makes P w G φ ρ o xs y := by
  unfold Makes
  cases hop : o.op <;> rw [hop] at hk <;> first | (cases hk; done) | skip
  rename_i el
  simp only [okAF, Bool.and_eq_true, decide_eq_true_iff] at hk
  obtain ⟨hm, hk⟩ := hk
  split at hk <;> first | (cases hk; done) | skip
  rename_i i hi
  split at hk <;> first | (cases hk; done) | skip
  rename_i z hz
  have hzs : z.cells.size = m := by simpa using hk
  simp only [af] at hy
  split at hy <;> first | (cases hy; done) | skip
  injection hy with hy; subst hy
  have hext := ext_alloc0 (w := w) hg (.cells z.cells el)
  have hblk : (w.alloc (.cells z.cells el)).heap[w.heap.size]? = some (.cells z.cells el) := heap_alloc_new w _
  have hl : ∀ p ∈ leaves (.raw m) (.pointer (some ⟨w.heap.size, 0, none⟩)), p = (.raw m, .pointer (some ⟨w.heap.size, 0, none⟩)) := fun p hp => by
    have : leaves (.raw m) (.pointer (some ⟨w.heap.size, 0, none⟩)) = [(.raw m, .pointer (some ⟨w.heap.size, 0, none⟩))] := rfl
    rw [this, List.mem_singleton] at hp
    exact hp
  refine ⟨.pointer (some ⟨w.heap.size, 0, none⟩), w.alloc (.cells z.cells el), G, ?_, ⟨hext, .raw _ _ _, fun p hp => ?_, fun b => ?_, fun b hb _ => ⟨heap_alloc_old w _ hb, rfl⟩, fun b hb => hg b ?_⟩⟩
  · unfold execOp; rw [hop]
    refine exec_vm ?_
    unfold Instr.alloc
    rw [Sem.run_bind, run_zeroValue' hi hz, Result.andThen_ok]
    rfl
  · rw [hl p hp]
    exact ⟨⟨z.cells, el, (0, 0), hblk, hzs, fun o _ h => by omega⟩, hg _ (Nat.le_refl _)⟩
  · have : tk (.raw m) (.pointer (some ⟨w.heap.size, 0, none⟩)) b = if w.heap.size = b then 1 else 0 := by
      show sumTk [(.raw m, .pointer (some ⟨w.heap.size, 0, none⟩))] b = _
      simp [sumTk, tk1]
    rw [this]
    split
    · rename_i e
      rw [if_pos (by omega)]; omega
    · exact Nat.zero_le _
  · have : (w.alloc (.cells z.cells el)).heap.size = w.heap.size + 1 := Array.size_push ..
    omega
theorem af_ok {f : AF} (hk : okAF P o.op f = true) (hx : All2 (R w G φ) xs ((opArgs o.op).map ρ)) (ht : ∀ p ∈ xs.zip ((opArgs o.op).map ρ), Tail w G p.1 p.2) (hg : ∀ b, w.heap.size ≤ b → G b = 0) (hy : af f xs = some y) : Makes P w G φ ρ o xs y := by
  cases f with
  | bslice => exact ok_bslice hk hx ht hg hy
  | mkslice => exact ok_mkslice hk hx ht hg hy
  | app => exact ok_app hk hx ht hg hy
  | apps => exact ok_apps hk hx ht hg hy
  | s2b => exact ok_s2b hk hx ht hg hy
  | raw n => exact ok_raw hk hg hy

end
end Go.Proofs.Ytnodepfoahmcmaa.E

/- The engine, part R: abstract code, and what it means. Conditions: none. -/
namespace Go.Proofs.Ytnodepfoahmcmaa.E

/-- What reads and writes blocks of the state. -/
inductive HK where
  | boxH | allocH (zero : List V) | allocB (T e : Nat) | loadH (n : Option Nat) | storeH (n : Nat) | mkH (sz bytes : Nat) (zero : V) | appH (sz bytes : Nat) | appM (sz bytes : Nat) | bsliceM (sz : Nat) | clearH (sz : Nat) (zero : V) | frz (sz : Nat)
  | takeH | bsliceH (sz len : Nat) (zero : List V) (parts : List Nat) | lookT (zero : V) (ag : Bool) (ks : List Nat)
  | mkMap | look (zero : V) (ok : Bool) (ag : Bool) (ks : List Nat) | upd (ag : Bool) (ks : List Nat) | delM (ag : Bool) (ks : List Nat) | lenM

def okCell : V → Bool
  | .junk | .agg _ | .tup _ | .raw _ => false
  | _ => true
/-- A row in the form of the old one. -/
def reRow : V → List V → V
  | .agg _, cs => .agg cs
  | _, [c] => c
  | _, cs => .agg cs
def findK (ag : Bool) (ks : List Nat) (k : V) : List (V × V) → Nat → Option (Option (Nat × V))
  | [], _ => some none
  | (k', v) :: r, i => (eqV ag ks k k').bind fun b => if b then some (some (i, v)) else findK ag ks k r (i + 1)

/-- Something is appended to rows that may be written. -/
def appB (sz bytes b z off m : Nat) (l' : List V) (h : Heap) (n : Nat) : Option (V × Heap × Nat) :=
  if l'.length = 0 then some (.hs b z off m, h, 0) else if (m + l'.length) * bytes ≤ LIM ∧ m + l'.length ≤ LIM then
    (if z = 0 then (if m = 0 then some (.hs n sz 0 l'.length, set h n (.rows sz (l'.map clr2)), 1) else none)
    else if z = sz ∧ off = 0 then (match get h b with
      | some (.rows sz' l) => if sz' = sz ∧ m ≤ l.length then some (.hs n sz 0 (m + l'.length), set (del h b) n (.rows sz (l.take m ++ l'.map clr2)), 1) else none
      | _ => none) else none) else none
/-- The same; the new elements keep their rights. -/
def appBL (sz bytes b z off m : Nat) (L : List V) (h : Heap) (n : Nat) : Option (V × Heap × Nat) :=
  if L.length = 0 then some (.hs b z off m, h, 0) else if (m + L.length) * bytes ≤ LIM ∧ m + L.length ≤ LIM then
    (if z = 0 then (if m = 0 then some (.hs n sz 0 L.length, set h n (.rows sz L), 1) else none)
    else if z = sz ∧ off = 0 then (match get h b with
      | some (.rows sz' l) => if sz' = sz ∧ m ≤ l.length then some (.hs n sz 0 (m + L.length), set (del h b) n (.rows sz (l.take m ++ L)), 1) else none
      | _ => none) else none) else none
def fillH (l : List V) (sz : Nat) : List Nat → List V → Option (List V)
  | [], [] => some l
  | i :: ps, x :: xs => if x.cells.length = sz ∧ i < l.length ∧ solid x = true ∧ x.cells.all okCell = true then fillH (l.set i (clr2 x)) sz ps xs else none
  | _, _ => none
/-- What it computes: a value, the blocks, how many numbers it takes. -/
def hf : HK → List V → Heap → Nat → Option (V × Heap × Nat)
  | .boxH, xs, h, n => match xs with
    | [y] => if solid y = true ∧ y.cells.all okCell = true then some (.ptr n y.cells.length 0 0, set h n (.rows y.cells.length [.agg y.cells]), 1) else none
    | _ => none
  | .allocH zero, xs, h, n => match xs with
    | [] => if zero.all okCell = true then some (.ptr n zero.length 0 0, set h n (.rows zero.length [.agg zero]), 1) else none
    | _ => none
  | .allocB T e, xs, h, n => match xs with
    | [] => some (.ptr n 2 0 0, set h n (.bld T e []), 1)
    | _ => none
  | .loadH m, xs, h, _ => match xs with
    | [.ptr b sz i off] => (match get h b with
      | some (.rows sz' l) => if sz = sz' then (l[i]?).bind fun row => (part row.cells off m).map fun y => (clr y, h, 0) else none
      | _ => none)
    | _ => none
  | .takeH, xs, h, _ => match xs with
    | [.ptr b sz i off] => (match get h b with
      | some (.rows sz' l) => if sz = sz' then (l[i]?).bind fun row => (row.cells[off]?).bind fun c => if okCell c = true then some (c, set h b (.rows sz (l.set i (reRow row (row.cells.take off ++ [clr1 c] ++ row.cells.drop (off + 1))))), 0) else none else none
      | _ => none)
    | _ => none
  | .storeH m, xs, h, _ => match xs with
    | [.ptr b sz i off, y] => (match get h b with
      | some (.rows sz' l) => if sz = sz' ∧ y.cells.length = m ∧ off + m ≤ sz ∧ solid y = true ∧ y.cells.all okCell = true then
          (l[i]?).map fun row => (.junk, set h b (.rows sz (l.set i (reRow row (row.cells.take off ++ y.cells ++ row.cells.drop (off + m))))), 0) else none
      | _ => none)
    | _ => none
  | .mkH sz bytes zero, xs, h, n => match xs with
    | [.int _ m, .int _ c] => if 0 ≤ m ∧ m ≤ c ∧ c.toNat * bytes ≤ LIM ∧ c ≤ LIM ∧ zero.cells.length = sz ∧ zero.cells.all okCell = true then some (.hs n sz 0 m.toNat, set h n (.rows sz (List.replicate m.toNat (clr2 zero))), 1) else none
    | _ => none
  | .appH sz bytes, xs, h, n => match xs with
    | [.hs b z off m, .sl _ z' l'] => if z' = sz ∨ l'.length = 0 then appB sz bytes b z off m l' h n else none
    | [.hs b z off m, .hs b2 z2 off2 m2] => if m2 = 0 then some (.hs b z off m, h, 0) else if z2 = sz then (match get h b2 with
      | some (.rows sz2 l2) => if sz2 = sz ∧ off2 + m2 ≤ l2.length then appB sz bytes b z off m ((l2.drop off2).take m2) h n else none
      | _ => none) else none
    | _ => none
  | .appM sz bytes, xs, h, n => match xs with
    | [.hs b z off m, .hs b2 z2 off2 m2] => (match get h b2 with
      | some (.rows sz2 l2) => if sz2 = sz ∧ z2 = sz ∧ off2 = 0 ∧ m2 = l2.length ∧ 0 < m2 ∧ b2 ≠ b then appBL sz bytes b z off m l2 (del h b2) n else none
      | _ => none)
    | _ => none
  | .bsliceM sz, xs, h, n => match xs with
    | [x] => if (get h n).isNone = true ∧ x.cells.length = sz ∧ 0 < sz ∧ sz ≤ 16777216 ∧ solid x = true ∧ x.cells.all okCell = true then some (.hs n sz 0 1, set h n (.rows sz [x]), 1) else none
    | _ => none
  | .bsliceH sz len zero parts, xs, h, n => if 0 < sz ∧ len * sz ≤ 16777216 ∧ zero.length = sz ∧ zero.all noH1 = true then (fillH (List.replicate len (ofCells sz zero)) sz parts xs).map fun l => (.hs n sz 0 len, set h n (.rows sz l), 1) else none
  | .clearH sz zero, xs, h, _ => match xs with
    | [.hs b z off m] => if z = sz then (match get h b with
      | some (.rows sz' l) => if sz' = sz ∧ off + m ≤ l.length ∧ zero.cells.length = sz ∧ noH2 zero = true ∧ zero.cells.all okCell = true then some (.tup [], set h b (.rows sz (l.take off ++ List.replicate m (clr2 zero) ++ l.drop (off + m))), 0) else none
      | _ => none) else none
    | _ => none
  | .frz sz, xs, h, _ => match xs with
    | [.hs b z off m] => if z = 0 then (if m = 0 then some (.sl false sz [], h, 0) else none) else if z = sz then (match get h b with
      | some (.rows sz' l) => if sz' = sz ∧ off + m ≤ l.length ∧ l.all noH2 = true then some (.sl false sz ((l.drop off).take m |>.map clr2), del h b, 0) else none
      | _ => none) else none
    | _ => none
  | .mkMap, xs, h, n => match xs with | [] => some (.hm n, set h n (.map []), 1) | _ => none
  | .look zero ok ag ks, xs, h, _ =>
    let out := fun (q : Option (Nat × V)) => match q with
      | some (_, v) => if ok then V.tup [clr2 v, .bool true] else clr2 v
      | none => if ok then V.tup [clr2 zero, .bool false] else clr2 zero
    match xs with
    | [.nilm, k] => some (out none, h, 0)
    | [.hm b, k] => (match get h b with
      | some (.map es) => (findK ag ks k es 0).map fun q => (out q, h, 0)
      | _ => none)
    | _ => none
  | .lookT zero ag ks, xs, h, _ => match xs with
    | [.hm b, k] => (match get h b with
      | some (.map es) => if noH2 k = true then (findK ag ks k es 0).map fun q => (match q with
        | some (i, v) => (v, set h b (.map (es.set i (k, clr2 v))), 0)
        | none => (zero, h, 0)) else none
      | _ => none)
    | _ => none
  | .upd ag ks, xs, h, _ => match xs with
    | [.hm b, k, v] => (match get h b with
      | some (.map es) => if noH2 k = true ∧ solid v = true then (findK ag ks k es 0).map fun q => (.junk, set h b (.map (match q with | some (i, _) => es.set i (k, v) | none => es ++ [(clr2 k, v)])), 0) else none
      | _ => none)
    | _ => none
  | .delM ag ks, xs, h, _ => match xs with
    | [.nilm, _] => some (.tup [], h, 0)
    | [.hm b, k] => (match get h b with
      | some (.map es) => (findK ag ks k es 0).map fun q => (.tup [], set h b (.map (match q with | some (i, _) => es.eraseIdx i | none => es)), 0)
      | _ => none)
    | _ => none
  | .lenM, xs, h, _ => match xs with
    | [.nilm] => some (.int .i64 0, h, 0)
    | [.hm b] => (match get h b with | some (.map es) => some (.int .i64 es.length, h, 0) | _ => none)
    | _ => none

inductive AK where
  | p (f : PK) (args : List Opd)
  | a (f : AF) (args : List Opd)
  | extr (s i : Nat)
  | box (s : Nat) (x : Opd)
  | loadL (s : Nat) (p : Opd) (n : Option Nat) (tk : Bool)
  | storeL (s n : Nat) (p x : Opd)
  | call (f v : Nat) (args : List Opd)
  | h (f : HK) (args : List Opd)
  | callH (v : Nat) (x : Opd) (args : List Opd)
  | init (d n : Nat) (x : Opd)

structure AOp where
  dst : Option Nat
  guard : Option (Nat × Bool)
  k : AK

inductive AC where
  | skip
  | reg (draw : Bool) (ops : List AOp)
  | seq (a b : AC)
  | cut (ke kl : List Nat) (a : AC)
  | cond (c : Opd) (x y : AC)
  | block (id : Nat) (c : AC)
  | loop (ke kl : List Nat) (c : AC)
  | exit (id : Nat)
  | ret

inductive AE where
  | normal
  | exit (id : Nat)
  | ret

inductive ARes where
  | t (n : Nat)
  | cell (n s : Nat) (k : Option Nat)

structure AFun where
  np : Nat
  nt : Nat
  code : AC
  res : List ARes

/-- What an operation does to the state: slots laid anew, boxes laid anew, new blocks. -/
structure Eff where
  e : List (Nat × V)
  l : List (Nat × (Nat × List V))
  c : Nat
  h : Option Heap
def sets {α : Type} (r : List (Nat × α)) (l : List (Nat × α)) : List (Nat × α) := l.foldl (fun r p => set r p.1 p.2) r
def St.app (st : St) (f : Eff) : St := { env := sets st.env f.e, loc := sets st.loc f.l, heap := f.h.getD st.heap, ctr := st.ctr + f.c }
def St.moves (st : St) : List Opd → List (Nat × V)
  | [] => []
  | .m n :: r => (match get st.env n with | some x => [(n, clr x)] | none => []) ++ St.moves st r
  | _ :: r => St.moves st r
def dstw (d : Option Nat) (x : V) : List (Nat × V) := match d with | some d => [(d, x)] | none => []

def eff (o : AOp) (st : St) : Option Eff := match o.k with
  | .p f args => (pf f (args.map st.ev)).map fun y => ⟨st.moves args ++ dstw o.dst y, [], 0, none⟩
  | .a f args => (af f (args.map st.ev)).map fun y => ⟨st.moves args ++ dstw o.dst y, [], 0, none⟩
  | .extr s i => match get st.env s with
    | some (.tup vs) => (vs[i]?).bind fun x => match x with | .tup _ => none | x => some ⟨(s, .tup (vs.set i .junk)) :: dstw o.dst x, [], 0, none⟩
    | _ => none
  | .box s x => let y := st.ev x
    if solid y = true ∧ y.cells.all okCell = true then some ⟨st.moves [x] ++ dstw o.dst (.ptr st.ctr y.cells.length 0 0), [(s, (st.ctr, y.cells))], 1, none⟩ else none
  | .loadL s p n tk => match st.ev p, get st.loc s with
    | .ptr b _ i off, some (b', cs) => if b = b' ∧ i = 0 then
        (match tk, n with
        | true, none => (cs[off]?).bind fun c => if okCell c = true then some ⟨dstw o.dst c, [(s, (b', cs.set off (clr1 c)))], 0, none⟩ else none
        | true, some _ => none
        | false, n => (part cs off n).map fun y => ⟨dstw o.dst (clr y), [], 0, none⟩) else none
    | _, _ => none
  | .storeL s n p x => match st.ev p, get st.loc s with
    | .ptr b _ i off, some (b', cs) => let y := st.ev x
      if b = b' ∧ i = 0 ∧ y.cells.length = n ∧ off + n ≤ cs.length ∧ solid y = true ∧ y.cells.all okCell = true then some ⟨st.moves [x] ++ dstw o.dst .junk, [(s, (b', cs.take off ++ y.cells ++ cs.drop (off + n)))], 0, none⟩ else none
    | _, _ => none
  | .h f args => (hf f (args.map st.ev) st.heap st.ctr).map fun q => ⟨st.moves args ++ dstw o.dst q.1, [], q.2.2, some q.2.1⟩
  | .init d n x => match get st.env d with
    | some (.raw n') => let y := st.ev x
      if n' = n ∧ y.cells.length = n ∧ y.cells.all okCell = true ∧ y.cells.all noH1 = true ∧ solid y = true then some ⟨st.moves [x] ++ [(d, .fptr (y.cells.map clr1) 0)], [], 0, none⟩ else none
    | _ => none
  | .call .. | .callH .. => none

def wantedA (st : St) : Option (Nat × Bool) → Option Bool
  | none => some true
  | some (s, b) => match get st.env s with | some (.bool c) => some (c == b) | some (.tup []) => some false | _ => none

def W {α : Type} : Option α → (α → Prop) → Prop
  | some a, k => k a
  | none, _ => False

/-- What a call may end in: a value, the blocks, the next free number. -/
abbrev Sem3 := Nat → Nat → List V → Heap → Nat → (V → Heap → Nat → Prop) → Prop

def wpO (X : Sem3) (o : AOp) (next : St → Prop) (st : St) : Prop := match o.k with
  | .call f v args => (args.map st.ev).all noH = true ∧ ∃ Q0, X f v (args.map st.ev) [] 0 Q0 ∧ ∀ r h n, Q0 r h n → noH r = true ∧ next (st.app ⟨st.moves args ++ dstw o.dst r, [], 0, none⟩)
  | .callH v x args => match st.ev x with
    | .fn f cap => ∃ Q0, X f v (args.map st.ev ++ cap.map clr) st.heap st.ctr Q0 ∧ ∀ r h n, Q0 r h n → next (st.app ⟨st.moves args ++ dstw o.dst r, [], n - st.ctr, some h⟩)
    | _ => False
  | _ => W (eff o st) fun e => next (st.app e)

def wpL (X : Sem3) : List AOp → (St → Prop) → St → Prop
  | [], Q, st => Q st
  | o :: r, Q, st => W (wantedA st o.guard) fun b => if b then wpO X o (wpL X r Q) st else wpL X r Q (st.app ⟨dstw o.dst (.tup []), [], 0, none⟩)

/-- Calls whose result is one. -/
def wpOD (X : Sem3) (o : AOp) (next : St → Prop) (st : St) : Prop := match o.k with
  | .call f v args => (args.map st.ev).all noH = true ∧ ∃ r Q0, X f v (args.map st.ev) [] 0 Q0 ∧ (∀ r' h n, Q0 r' h n → r' = r) ∧ noH r = true ∧ next (st.app ⟨st.moves args ++ dstw o.dst r, [], 0, none⟩)
  | .callH v x args => match st.ev x with
    | .fn f cap => ∃ r h n Q0, X f v (args.map st.ev ++ cap.map clr) st.heap st.ctr Q0 ∧ (∀ r' h' n', Q0 r' h' n' → r' = r ∧ h' = h ∧ n' = n) ∧ next (st.app ⟨st.moves args ++ dstw o.dst r, [], n - st.ctr, some h⟩)
    | _ => False
  | _ => W (eff o st) fun e => next (st.app e)
def wpLD (X : Sem3) : List AOp → (St → Prop) → St → Prop
  | [], Q, st => Q st
  | o :: r, Q, st => W (wantedA st o.guard) fun b => if b then wpOD X o (wpLD X r Q) st else wpLD X r Q (st.app ⟨dstw o.dst (.tup []), [], 0, none⟩)

def St.norm (st : St) (ke kl : List Nat) : St := { st with env := keep ke st.env, loc := keep kl st.loc }

def wpC (X : Sem3) : AC → (AE → St → Prop) → St → Prop
  | .skip, Q, st => Q .normal st
  | .reg d ops, Q, st => if d then wpLD X ops (Q .normal) st else wpL X ops (Q .normal) st
  | .seq a b, Q, st => wpC X a (fun e st' => match e with | .normal => wpC X b Q st' | e => Q e st') st
  | .cut ke kl a, Q, st => wpC X a (fun e st' => match e with | .normal => Q .normal (st'.norm ke kl) | e => Q e st') st
  | .cond c x y, Q, st => match st.ev c with | .bool b => if b then wpC X x Q st else wpC X y Q st | _ => False
  | .block id c, Q, st => wpC X c (fun e st' => match e with | .exit i => if i = id then Q .normal st' else Q (.exit i) st' | e => Q e st') st
  | .loop ke kl c, Q, st => ∀ L : St → Prop, (∀ st, wpC X c (fun e st' => match e with | .normal => L (st'.norm ke kl) | e => Q e st') st → L st) → L (st.norm ke kl)
  | .exit id, Q, st => Q (.exit id) st
  | .ret, Q, st => Q .ret st

def initE : Nat → List V → List (Nat × V)
  | _, [] => []
  | i, x :: r => (i, x) :: initE (i + 1) r
def resV (st : St) : ARes → Option V
  | .t n => get st.env n
  | .cell n s k => match get st.env n, get st.loc s with
    | some (.ptr b _ 0 0), some (b', cs) => if b = b' then (part cs 0 k).map clr else none
    | _, _ => none
def resL (st : St) : List ARes → Option (List V)
  | [] => some []
  | r :: rs => (resV st r).bind fun x => (resL st rs).map (x :: ·)
def outV : List V → V
  | [x] => x
  | xs => .tup xs

/-- The functions: those given as abstract code, and those of which a contract is known. -/
structure Tab where
  fn : Nat → Nat → Option AFun
  ext : Nat → List V → Heap → Nat → Option (V × Heap × Nat)

/-- One call unfolded. -/
def Phi (T : Tab) (X : Sem3) : Sem3 := fun f v args heap n Q => W (T.ext f args heap n) (fun q => Q q.1 q.2.1 q.2.2) ∨ W (T.fn f v) fun F => args.length = F.np ∧
  wpC X F.code (fun e st => match e with | .normal | .ret => W (resL st F.res) fun rs => Q (outV rs) st.heap st.ctr | _ => False) ⟨initE 0 args, [], heap, n⟩
/-- What a call means: the least that calls unfolded ask for. -/
def Run (T : Tab) : Sem3 := fun f v args heap n Q => ∀ X : Sem3, (∀ f v args heap n Q, Phi T X f v args heap n Q → X f v args heap n Q) → X f v args heap n Q

end Go.Proofs.Ytnodepfoahmcmaa.E

/- The engine, part S: what abstract code means grows with what its calls mean; calls may be unfolded. Conditions: none. -/
namespace Go.Proofs.Ytnodepfoahmcmaa.E
set_option linter.unusedVariables false

def LeS (X Y : Sem3) : Prop := ∀ f v a h n Q, X f v a h n Q → Y f v a h n Q

theorem W.imp {α : Type} {o : Option α} {k k' : α → Prop} (h : ∀ a, k a → k' a) (hw : W o k) : W o k' := by
  cases o with
  | none => exact hw
  | some a => exact h a hw

theorem wpO_mono {X Y : Sem3} (hXY : LeS X Y) {o : AOp} {K K' : St → Prop} (hK : ∀ st, K st → K' st) {st : St} (h : wpO X o K st) : wpO Y o K' st := by
  unfold wpO at h ⊢
  cases hk : o.k <;> rw [hk] at h <;> simp only at h ⊢
  case call f v args => obtain ⟨h0, Q0, h1, h2⟩ := h; exact ⟨h0, Q0, hXY _ _ _ _ _ _ h1, fun r hp n hr => ⟨(h2 r hp n hr).1, hK _ (h2 r hp n hr).2⟩⟩
  case callH v x args =>
    cases hx : st.ev x <;> rw [hx] at h <;> simp only at h ⊢
    obtain ⟨Q0, h1, h2⟩ := h
    exact ⟨Q0, hXY _ _ _ _ _ _ h1, fun r hp n hr => hK _ (h2 r hp n hr)⟩
  all_goals exact W.imp (fun e => hK _) h
theorem wpL_mono {X Y : Sem3} (hXY : LeS X Y) : ∀ (ops : List AOp) {K K' : St → Prop}, (∀ st, K st → K' st) → ∀ {st : St}, wpL X ops K st → wpL Y ops K' st
  | [], K, K', hK, st, h => hK _ h
  | o :: r, K, K', hK, st, h => by
    simp only [wpL] at h ⊢
    refine W.imp (fun b hb => ?_) h
    cases b
    · exact wpL_mono hXY r hK (by simpa using hb)
    · rw [if_pos rfl] at hb ⊢
      exact wpO_mono hXY (fun st hst => wpL_mono hXY r hK hst) hb
theorem wpOD_mono {X Y : Sem3} (hXY : LeS X Y) {o : AOp} {K K' : St → Prop} (hK : ∀ st, K st → K' st) {st : St} (h : wpOD X o K st) : wpOD Y o K' st := by
  unfold wpOD at h ⊢
  cases hk : o.k <;> rw [hk] at h <;> simp only at h ⊢
  case call f v args => obtain ⟨h0, r, Q0, h1, h2, h3, h4⟩ := h; exact ⟨h0, r, Q0, hXY _ _ _ _ _ _ h1, h2, h3, hK _ h4⟩
  case callH v x args =>
    cases hx : st.ev x <;> rw [hx] at h <;> simp only at h ⊢
    obtain ⟨r, hp, n, Q0, h1, h2, h3⟩ := h
    exact ⟨r, hp, n, Q0, hXY _ _ _ _ _ _ h1, h2, hK _ h3⟩
  all_goals exact W.imp (fun e => hK _) h
theorem wpLD_mono {X Y : Sem3} (hXY : LeS X Y) : ∀ (ops : List AOp) {K K' : St → Prop}, (∀ st, K st → K' st) → ∀ {st : St}, wpLD X ops K st → wpLD Y ops K' st
  | [], K, K', hK, st, h => hK _ h
  | o :: r, K, K', hK, st, h => by
    simp only [wpLD] at h ⊢
    refine W.imp (fun b hb => ?_) h
    cases b
    · exact wpLD_mono hXY r hK (by simpa using hb)
    · rw [if_pos rfl] at hb ⊢
      exact wpOD_mono hXY (fun st hst => wpLD_mono hXY r hK hst) hb

theorem wpC_mono {X Y : Sem3} (hXY : LeS X Y) : ∀ (c : AC) {Q Q' : AE → St → Prop}, (∀ e st, Q e st → Q' e st) → ∀ {st : St}, wpC X c Q st → wpC Y c Q' st
  | .skip, Q, Q', hQ, st, h => hQ _ _ h
  | .reg d ops, Q, Q', hQ, st, h => by
    cases d
    · exact wpL_mono hXY ops (hQ _) h
    · exact wpLD_mono hXY ops (hQ _) h
  | .seq a b, Q, Q', hQ, st, h => wpC_mono hXY a (fun e st he => by
      cases e <;> simp only at he ⊢
      · exact wpC_mono hXY b hQ he
      · exact hQ _ _ he
      · exact hQ _ _ he) h
  | .cut ke kl a, Q, Q', hQ, st, h => wpC_mono hXY a (fun e st he => by cases e <;> exact hQ _ _ he) h
  | .cond c x y, Q, Q', hQ, st, h => by
    simp only [wpC] at h ⊢
    cases hb : st.ev c <;> rw [hb] at h <;> simp only at h ⊢
    rename_i b
    cases b
    · exact wpC_mono hXY y hQ (by simpa using h)
    · exact wpC_mono hXY x hQ (by simpa using h)
  | .block id c, Q, Q', hQ, st, h => wpC_mono hXY c (fun e st he => by
      cases e <;> simp only at he ⊢
      · exact hQ _ _ he
      · split <;> rename_i hi
        · rw [if_pos hi] at he; exact hQ _ _ he
        · rw [if_neg hi] at he; exact hQ _ _ he
      · exact hQ _ _ he) h
  | .loop ke kl c, Q, Q', hQ, st, h => fun L hL => h L fun st' hst => hL st' (wpC_mono hXY c (fun e st he => by cases e <;> first | exact he | exact hQ _ _ he) hst)
  | .exit id, Q, Q', hQ, st, h => hQ _ _ h
  | .ret, Q, Q', hQ, st, h => hQ _ _ h

theorem Phi_mono (T : Tab) {X Y : Sem3} (hXY : LeS X Y) {f v : Nat} {a : List V} {hp : Heap} {n : Nat} {Q : V → Heap → Nat → Prop} (h : Phi T X f v a hp n Q) : Phi T Y f v a hp n Q := by
  unfold Phi at h ⊢
  exact h.imp id fun h => W.imp (fun F hF => ⟨hF.1, wpC_mono hXY F.code (fun e st he => he) hF.2⟩) h

theorem Run.le (T : Tab) {X : Sem3} (hX : ∀ f v args heap n Q, Phi T X f v args heap n Q → X f v args heap n Q) : LeS (Run T) X := fun f v a h n Q hr => hr X hX
/-- A call may be unfolded. -/
theorem Run.fold (T : Tab) {f v : Nat} {a : List V} {hp : Heap} {n : Nat} {Q : V → Heap → Nat → Prop} (h : Phi T (Run T) f v a hp n Q) : Run T f v a hp n Q :=
  fun X hX => hX _ _ _ _ _ _ (Phi_mono T (Run.le T hX) h)

end Go.Proofs.Ytnodepfoahmcmaa.E

/- The engine, part T: operands that are moved, boxes that are laid, and how one step goes on to the next. Conditions: none. -/
namespace Go.Proofs.Ytnodepfoahmcmaa.E
set_option linter.unusedVariables false
set_option linter.unusedSimpArgs false

/-- One state and memory goes on to another. -/
structure Goes (w : World) (G : Nat → Nat) (φ : Nat → Option Nat) (st : St) (ts : Array Value) (w' : World) (G' : Nat → Nat) (φ' : Nat → Option Nat) (st' : St) (ts' : Array Value) : Prop where
  ext : Ext w G w' G'
  mono : ∀ b m, φ b = some m → φ' b = some m
  fr : ∀ b, b < w.heap.size → cnt w φ st ts b = 0 → w'.heap[b]? = w.heap[b]? ∧ G' b = G b ∧ cnt w' φ' st' ts' b = 0
  ctr : st.ctr ≤ st'.ctr
theorem Goes.refl (w : World) (G : Nat → Nat) (φ : Nat → Option Nat) (st : St) (ts : Array Value) : Goes w G φ st ts w G φ st ts := ⟨Ext.refl _ _, fun _ _ h => h, fun _ _ h => ⟨rfl, rfl, h⟩, Nat.le_refl _⟩
theorem Goes.trans {w w1 w2 : World} {G G1 G2 : Nat → Nat} {φ φ1 φ2 : Nat → Option Nat} {st st1 st2 : St} {ts ts1 ts2 : Array Value} (h : Goes w G φ st ts w1 G1 φ1 st1 ts1) (k : Goes w1 G1 φ1 st1 ts1 w2 G2 φ2 st2 ts2) : Goes w G φ st ts w2 G2 φ2 st2 ts2 :=
  ⟨h.ext.trans k.ext, fun b m hb => k.mono b m (h.mono b m hb), fun b hb hc => by
    obtain ⟨a1, a2, a3⟩ := h.fr b hb hc
    obtain ⟨b1, b2, b3⟩ := k.fr b (Nat.lt_of_lt_of_le hb h.ext.size) a3
    exact ⟨b1.trans a1, b2.trans a2, b3⟩, Nat.le_trans h.ctr k.ctr⟩

section
variable {w : World} {G : Nat → Nat} {φ : Nat → Option Nat} {st : St} {ts : Array Value}

/-- Less is kept: a step. -/
theorem Goes.less {st' : St} (hc : ∀ b, cnt w φ st' ts b ≤ cnt w φ st ts b) (hn : st'.ctr = st.ctr) : Goes w G φ st ts w G φ st' ts :=
  ⟨Ext.refl _ _, fun _ _ h => h, fun b _ h => ⟨rfl, rfl, by have := hc b; omega⟩, by omega⟩

def mslots : List Opd → List Nat
  | [] => []
  | .m n :: r => n :: mslots r
  | _ :: r => mslots r

/-- What an operand brings. -/
def OpdOk (w : World) (G : Nat → Nat) (φ : Nat → Option Nat) (st : St) (ts : Array Value) (x : Opd) (v : Value) : Prop := match x with
  | .t n | .m n => v = ts.getD n undef
  | .c y => R w G φ y v ∧ Tail w G y v ∧ ∀ b, tk y v b = 0

theorem ev_R (h : Inv w G φ st ts) {x : Opd} {v : Value} (hx : OpdOk w G φ st ts x v) : R w G φ (st.ev x) v ∧ Tail w G (st.ev x) v := by
  have jt : ∀ v, Tail w G .junk v := fun v => Tail_plain rfl v
  cases x with
  | t n =>
    simp only [OpdOk] at hx; subst hx
    simp only [St.ev]
    cases hg : get st.env n with
    | none => exact ⟨.junk _ _, jt _⟩
    | some x => exact ⟨(h.env _ (get_mem hg)).2.1.clr, Tail_clr _ _ _ _⟩
  | m n =>
    simp only [OpdOk] at hx; subst hx
    simp only [St.ev]
    cases hg : get st.env n with
    | none => exact ⟨.junk _ _, jt _⟩
    | some x => exact ⟨(h.env _ (get_mem hg)).2.1, (h.env _ (get_mem hg)).2.2⟩
  | c y => exact ⟨hx.1, hx.2.1⟩

theorem get_set_ne {α : Type} : ∀ (l : List (Nat × α)) {k j : Nat} (x : α), j ≠ k → get (set l k x) j = get l j
  | [], k, j, x, h => by simp [set, get, h]
  | (a, y) :: r, k, j, x, h => by
    rw [set]
    split
    · rw [get, if_neg h]
    · split
      · rename_i e; rw [get, get, if_neg h, if_neg (by omega)]
      · rw [get, get, get_set_ne r x h]
theorem get_set_eq {α : Type} : ∀ (l : List (Nat × α)) (k : Nat) (x : α), get (set l k x) k = some x
  | [], k, x => by simp [set, get]
  | (a, y) :: r, k, x => by
    rw [set]
    split
    · simp [get]
    · split
      · simp [get]
      · rename_i h1 h2; rw [get, if_neg h2, get_set_eq r k x]

theorem moves_congr {st st' : St} : ∀ (args : List Opd), (∀ n ∈ mslots args, get st'.env n = get st.env n) → st'.moves args = st.moves args
  | [], _ => rfl
  | .m n :: r, h => by simp only [St.moves, h n (by simp [mslots]), moves_congr r fun k hk => h k (by simp [mslots, hk])]
  | .t n :: r, h => by simp only [St.moves]; exact moves_congr r h
  | .c x :: r, h => by simp only [St.moves]; exact moves_congr r h

theorem ev_congr {st st' : St} {x : Opd} (h : ∀ n, x = .t n ∨ x = .m n → get st'.env n = get st.env n) : st'.ev x = st.ev x := by
  cases x with
  | t n => simp only [St.ev, h n (.inl rfl)]
  | m n => simp only [St.ev, h n (.inr rfl)]
  | c y => rfl

/-- Operands are taken: what is moved leaves its slot without rights. -/
theorem Inv.moves (h : Inv w G φ st ts) : ∀ (args : List Opd) (vs : List Value), All2 (OpdOk w G φ st ts) args vs → (mslots args).Nodup →
    ∃ st1 : St, st1 = { st with env := sets st.env (st.moves args) } ∧ Inv w G φ st1 ts ∧ (∀ b, E.cnt w φ st1 ts b + vtk (args.map st.ev) vs b = E.cnt w φ st ts b) ∧ ∀ n, n ∉ mslots args → get st1.env n = get st.env n := by
  intro args
  induction args generalizing st with
  | nil =>
    intro vs hv _
    cases hv
    exact ⟨st, rfl, h, fun b => by simp [vtk], fun _ _ => rfl⟩
  | cons a args ih =>
    intro vs hv hnd
    cases hv with
    | cons ha ht =>
      rename_i v vs
      have vc : ∀ (x : V) (v : Value) (xs : List V) (vs : List Value) b, vtk (x :: xs) (v :: vs) b = tk x v b + vtk xs vs b := fun x v xs vs b => by simp [vtk]
      cases a with
      | t n =>
        obtain ⟨st1, h1, h2, h3, h4⟩ := ih h vs ht hnd
        refine ⟨st1, h1, h2, fun b => ?_, h4⟩
        have := h3 b
        rw [List.map_cons, vc]
        have e : tk (st.ev (.t n)) v b = 0 := by simp only [St.ev]; exact tk_clr _ _ _
        omega
      | c y =>
        obtain ⟨st1, h1, h2, h3, h4⟩ := ih h vs ht hnd
        refine ⟨st1, h1, h2, fun b => ?_, h4⟩
        have := h3 b
        rw [List.map_cons, vc]
        have e : tk (st.ev (.c y)) v b = 0 := ha.2.2 b
        omega
      | m n =>
        have hv : v = ts.getD n undef := ha
        subst hv
        have hnd' := List.nodup_cons.1 (show (n :: mslots args).Nodup from hnd)
        cases hg : get st.env n with
        | none =>
          obtain ⟨st1, h1, h2, h3, h4⟩ := ih h vs ht hnd'.2
          refine ⟨st1, by rw [h1]; simp [St.moves, hg], h2, fun b => ?_, fun k hk => h4 k fun hk' => hk (by simp [mslots, hk'])⟩
          have := h3 b
          rw [List.map_cons, vc]
          have e : tk (st.ev (.m n)) (ts.getD n undef) b = 0 := by simp only [St.ev, hg]; exact tk_plain rfl _ _
          omega
        | some x =>
          obtain ⟨hc1, hc2⟩ := h.clr hg
          have hargs : ∀ a ∈ args, ({ st with env := set st.env n (E.clr x) } : St).ev a = st.ev a := fun a ha' => by
            cases a with
            | c y => rfl
            | m k =>
              have : k ≠ n := fun e => hnd'.1 (by
                subst e
                clear hnd ht hnd' ih
                induction args with
                | nil => cases ha'
                | cons q r ihq =>
                  rcases List.mem_cons.1 ha' with rfl | h'
                  · simp [mslots]
                  · cases q <;> simp [mslots, ihq h'])
              simp only [St.ev, get_set_ne _ _ this]
            | t k =>
              simp only [St.ev]
              by_cases e : k = n
              · subst e
                rw [get_set_eq, hg]
                have cc : ∀ y : V, E.clr (E.clr y) = E.clr y := fun y => by
                  have c1 : ∀ y : V, clr1 (clr1 y) = clr1 y := fun y => by cases y <;> rfl
                  have c2 : ∀ y : V, clr2 (clr2 y) = clr2 y := fun y => by
                    cases y with
                    | agg cs => simp [clr2, List.map_map, Function.comp_def, c1]
                    | _ => rfl
                  cases y with
                  | tup vs => simp [E.clr, List.map_map, Function.comp_def, c2]
                  | agg cs => exact c2 (.agg cs)
                  | _ => rfl
                simp only [Option.getD_some, cc]
              · rw [get_set_ne _ _ e]
          have ht' : All2 (OpdOk w G φ { st with env := set st.env n (E.clr x) } ts) args vs := ht.imp fun a v h => by cases a <;> exact h
          obtain ⟨st1, h1, h2, h3, h4⟩ := ih hc1 vs ht' hnd'.2
          have hmv : ({ st with env := set st.env n (E.clr x) } : St).moves args = st.moves args := moves_congr args fun k hk => get_set_ne _ _ fun e => hnd'.1 (e ▸ hk)
          refine ⟨st1, by rw [h1, hmv]; simp [St.moves, hg, sets], h2, fun b => ?_, fun k hk => ?_⟩
          · have a1 := h3 b
            have a2 := hc2 b
            rw [List.map_congr_left hargs] at a1
            rw [List.map_cons, vc]
            have e : st.ev (.m n) = x := by simp only [St.ev, hg]; rfl
            rw [e]
            omega
          · rw [h4 k fun hk' => hk (by simp [mslots, hk'])]
            exact get_set_ne _ _ fun e => hk (by simp [mslots, e])

/-! ### Boxes -/
theorem del_none {α : Type} : ∀ {l : List (Nat × α)} {k : Nat}, (∀ p ∈ l, p.1 ≠ k) → del l k = l
  | [], _, _ => rfl
  | (a, y) :: l, k, h => by
    rw [del, if_neg (fun e => h (a, y) (by simp) e.symm), del_none fun p hp => h p (by simp [hp])]
theorem set_del {α : Type} {l : List (Nat × α)} (hs : Sorted l) (k : Nat) (x : α) : set (del l k) k x = set l k x := by
  induction l with
  | nil => rfl
  | cons p l ih =>
    obtain ⟨a, y⟩ := p
    have hs' := List.pairwise_cons.1 hs
    rw [del]
    by_cases e : k = a
    · subst e
      rw [if_pos rfl]
      cases l with
      | nil => simp [set]
      | cons q l =>
        obtain ⟨a', y'⟩ := q
        have := hs'.1 (a', y') (by simp)
        simp only at this
        simp only [set]
        rw [if_pos this, if_neg (by omega), if_pos trivial]
    · rw [if_neg e]
      simp only [set]
      by_cases c : k < a
      · rw [if_pos c, if_pos c, del_none fun p hp => by have := hs'.1 _ hp; simp only at this; omega]
      · rw [if_neg c, if_neg c, if_neg e, if_neg e, ih hs'.2]
theorem get_del {α : Type} {l : List (Nat × α)} (hs : Sorted l) (k : Nat) : get (del l k) k = none := by
  induction l with
  | nil => rfl
  | cons p l ih =>
    obtain ⟨a, y⟩ := p
    have hs' := List.pairwise_cons.1 hs
    rw [del]
    split
    · rename_i e
      cases h : get l k with
      | none => rfl
      | some z => have := hs'.1 _ (get_mem h); simp only at this; omega
    · rename_i e
      rw [get, if_neg e, ih hs'.2]
theorem sum_del {α : Type} (f : Nat × α → Nat) {l : List (Nat × α)} {k : Nat} {y : α} (h : get l k = some y) : ((del l k).map f).sum + f (k, y) = (l.map f).sum := by
  induction l with
  | nil => cases h
  | cons p l ih =>
    obtain ⟨a, z⟩ := p
    rw [get] at h
    rw [del]
    split
    · rename_i e
      rw [if_pos e] at h
      injection h with h
      subst e; subst h
      simp
      omega
    · rename_i e
      rw [if_neg e] at h
      have := ih h
      simp only [List.map_cons, List.sum_cons]
      omega

def boxB (cs : List V) : Blk := .rows cs.length [.agg cs]
theorem live_eq (st : St) : live st = st.loc.map (fun p => (p.2.1, boxB p.2.2)) ++ st.heap := rfl

/-- A box leaves the state. -/
theorem Inv.dropBox (h : Inv w G φ st ts) {s b : Nat} {cs : List V} (hg : get st.loc s = some (b, cs)) : Inv w G φ { st with loc := del st.loc s } ts ∧ ∀ q, E.cnt w φ { st with loc := del st.loc s } ts q + lv w φ q (b, boxB cs) = E.cnt w φ st ts q := by
  refine ⟨(h.drop (List.Sublist.refl _) (del_sublist _ _) (List.Sublist.refl _)).1, fun q => ?_⟩
  have := sum_del (fun p : Nat × (Nat × List V) => lv w φ q (p.2.1, boxB p.2.2)) hg
  unfold E.cnt cntH
  rw [live_eq, live_eq, List.map_append, List.map_append, List.map_map, List.map_map, List.sum_append, List.sum_append]
  simp only [Function.comp_def]
  dsimp only at this
  omega
/-- A box comes in. -/
theorem Inv.addBox (h : Inv w G φ st ts) {s b : Nat} {cs : List V} (hg : get st.loc s = none) (hb : BlkRep w G φ b (boxB cs)) (hc : ∀ q, E.cnt w φ st ts q + lv w φ q (b, boxB cs) ≤ 1) :
    Inv w G φ { st with loc := set st.loc s (b, cs) } ts ∧ ∀ q, E.cnt w φ { st with loc := set st.loc s (b, cs) } ts q = E.cnt w φ st ts q + lv w φ q (b, boxB cs) := by
  have hsum : ∀ q, E.cnt w φ { st with loc := set st.loc s (b, cs) } ts q = E.cnt w φ st ts q + lv w φ q (b, boxB cs) := fun q => by
    have := sum_set (fun p : Nat × (Nat × List V) => lv w φ q (p.2.1, boxB p.2.2)) h.sortedL s (b, cs)
    rw [hg] at this
    simp only [Nat.add_zero] at this
    unfold E.cnt cntH
    rw [live_eq, live_eq, List.map_append, List.map_append, List.map_map, List.map_map, List.sum_append, List.sum_append]
    simp only [Function.comp_def]
    omega
  refine ⟨⟨h.sorted, set_sorted h.sortedL _ _, h.sortedH, h.env, fun p hp => ?_, fun q => by rw [hsum]; exact hc q, h.ctr, h.zero⟩, hsum⟩
  rw [live_eq, List.mem_append] at hp
  rcases hp with hp | hp
  · obtain ⟨r, hr, rfl⟩ := List.mem_map.1 hp
    rcases mem_set h.sortedL hr with rfl | ⟨hr, _⟩
    · exact hb
    · exact h.live _ (by rw [live_eq]; exact List.mem_append_left _ (List.mem_map.2 ⟨r, hr, rfl⟩))
  · exact h.live _ (by rw [live_eq]; exact List.mem_append_right _ hp)

end
end Go.Proofs.Ytnodepfoahmcmaa.E

/- The engine, part U: each abstract operation stands for the program's. First half. Conditions: none. -/
namespace Go.Proofs.Ytnodepfoahmcmaa.E
set_option linter.unusedVariables false
set_option linter.unusedSimpArgs false

def okOpd : Operand → Opd → Bool
  | .tmp t, .t n | .tmp t, .m n => t == n
  | .const v, .c x => okC v x
  | .func f, .c (.fn g []) => f == g
  | _, _ => false
def okArgs : List Operand → List Opd → Bool
  | [], [] => true
  | x :: r, y :: q => okOpd x y && okArgs r q
  | _, _ => false
/-- A function that a call enters. -/
def entersB (P : Program) (f : FuncId) : Bool := match P.funcs[f]? with | some fn => fn.name != "runtime.NumGoroutine" && fn.body.isSome | none => false
def keyIs (P : Program) (kt : TypeId) (ks : List Nat) : Bool := match P.underlying kt with
  | some .bool => ks == [0]
  | some (.int _) => ks == [1]
  | some .string => ks == [2]
  | _ => false
def zeroOk (P : Program) (t : TypeId) (zero : V) : Bool := match P.info? t with | some i => (match i.zero with | some z => okC z zero && (match zero with | .tup _ => false | _ => true) | none => false) | none => false
def zeroOne (P : Program) (t : TypeId) : Bool := match P.underlying t with | some (.slice e) => (match P.info? e with | some i => (match i.zero with | some z => z.cells.toList.all (·.oneCell') | none => false) | none => false) | _ => false
/-- A builder, as it is born. -/
def bldZero (P : Program) (t : TypeId) : Bool := match P.info? t with | some i => (match i.zero with | some z => (match z.cells.toList with | [.pointer none, .slice none 0 0] => true | _ => false) | none => false) | none => false
/-- Does the abstract operation on blocks stand for the program's? -/
def okHK (P : Program) (op : Op) (f : HK) : Bool := match f, op with
  | .boxH, .box _ _ => true
  | .allocH zero, .alloc e => zeroIs P e zero
  | .allocB T _, .alloc el => el == T && bldZero P el
  | .loadH m, .load t _ => aggIs P t m
  | .takeH, .load t _ => aggIs P t none
  | .storeH k, .store t _ _ => szIs P t k
  | .mkMap, .makeMap _ none => true
  | .look zero ok ag ks, .lookup t _ _ ok' => ok == ok' && !ag && (match P.underlying t with | some (.map k e) => keyIs P k ks && zeroOk P e zero | _ => false)
  | .mkH sz bytes zero, .makeSlice t _ _ => elemIs P t sz bytes && (match P.underlying t with | some (.slice e) => (match P.info? e with | some i => (match i.zero with | some z => okCL z.cells.toList zero.cells | none => false) | none => false) | _ => false)
  | .frz _, .move _ | .frz _, .assign _ => true
  | .appH sz bytes, .call c => (match c.callee, c.argTypes.toList with | .builtin .append, [t, t2] => elemIs P t sz bytes && isSl P t2 && zeroOne P t | _, _ => false)
  | .appM sz bytes, .call c => (match c.callee, c.argTypes.toList with | .builtin .append, [t, t2] => elemIs P t sz bytes && isSl P t2 && zeroOne P t | _, _ => false)
  | .bsliceM sz, .buildSlice t m ps => m == 1 && slIs P t sz && (match P.underlying t with | some (.slice e) => (match P.info? e with | some i => (match i.zero with | some z => z.cells.size == sz | none => false) | none => false) | _ => false) && ps.toList.map (·.1) == [0]
  | .clearH sz zero, .call c => (match c.callee, c.argTypes.toList with | .builtin .clear, [t] => (match P.underlying t with | some (.slice e) => (match P.info? e with | some i => i.size == sz && decide (0 < sz) && (match i.zero with | some z => okCL z.cells.toList zero.cells && z.cells.size == sz | none => false) | none => false) | _ => false) | _, _ => false)
  | .bsliceH sz len zero parts, .buildSlice t m ps => m == len && slIs P t sz && (match P.underlying t with | some (.slice e) => zeroIs P e zero | _ => false) && ps.toList.map (·.1) == parts
  | .lookT zero ag ks, .lookup t _ _ ok' => !ok' && !ag && (match P.underlying t with | some (.map k e) => keyIs P k ks && zeroOk P e zero | _ => false)
  | .lenM, .call c => (match c.callee, c.argTypes.toList with | .builtin .len, [t] => (match P.underlying t with | some (.map _ _) => true | _ => false) | _, _ => false)
  | .upd ag ks, .mapUpdate t _ _ _ => !ag && (match P.underlying t with | some (.map k _) => keyIs P k ks | _ => false)
  | _, _ => false
def okK (P : Program) (o : Oper) (k : AK) : Bool := match k, o.op with
  | .p f args, _ => okPK P o.op f && okArgs (opArgs o.op) args && decide ((mslots args).Nodup)
  | .a f args, _ => okAF P o.op f && okArgs (opArgs o.op) args && decide ((mslots args).Nodup)
  | .extr s i, .extract (.tmp t) ix => t == s && ix == i
  | .box _ (.c y), .alloc e => (match P.info? e with | some i => (match i.zero with | some z => okCL z.cells.toList y.cells | none => false) | none => false)
  | .box _ x, .box _ v => okOpd v x
  | .loadL _ p n _, .load t a => aggIs P t n && okOpd a p
  | .storeL _ n p x, .store t a v => szIs P t n && okOpd a p && okOpd v x
  | .init d n x, .store t a v => szIs P t n && (match a with | .tmp k => k == d | _ => false) && okOpd v x && decide ((mslots [x, .m d]).Nodup) && o.dst == none
  | .call f _ args, .call c => (match c.callee with | .value (.func g) => f == g | _ => false) && okArgs c.args.toList args && decide ((mslots args).Nodup) && entersB P f
  | .h f args, _ => okHK P o.op f && okArgs (opArgs o.op) args && decide ((mslots args).Nodup)
  | .callH _ x args, .call c => (match c.callee with | .value y => okOpd y x | _ => false) && okArgs c.args.toList args && decide ((mslots args).Nodup)
  | _, _ => false
def okDst (nt : Nat) (d : Option Nat) : Bool := match d with | some d => decide (d < nt) | none => true
def okGuard (ops : Array Oper) (g : Option (Nat × Bool)) (a : Option (Nat × Bool)) : Bool := match g, a with
  | none, none => true
  | some (j, want), some (s, b) => want == b && ((ops[j]?).bind (·.dst) == some s)
  | _, _ => false
def okOp (P : Program) (nt : Nat) (ops : Array Oper) (o : Oper) (a : AOp) : Bool := o.dst == a.dst && okDst nt a.dst && okGuard ops o.guard a.guard && okK P o a.k

section
variable {P : Program} {w : World} {G : Nat → Nat} {φ : Nat → Option Nat} {st : St} {act : Act}

theorem okC_R {v : Value} {x : V} (h : okC v x = true) : R w G φ x v ∧ Tail w G x v ∧ ∀ b, tk x v b = 0 := by
  have one : ∀ {v : Value} {x : V}, okC1 v x = true → R w G φ x v ∧ Tail w G x v ∧ ∀ b, tk x v b = 0 := fun {v x} h => by
    obtain ⟨h1, h2, h3, h4, h5, h6⟩ := okC1_R (w := w) (G := G) (φ := φ) h
    have hl : leaves x v = [(x, v)] := by
      rw [leaves_of_not_tup (by intro vs e; subst e; simp [solid] at h2), h5, h6]; rfl
    exact ⟨h1, fun p hp => by rw [hl, List.mem_singleton] at hp; subst hp; exact h4, fun b => by unfold tk; rw [hl]; simp [sumTk, h3]⟩
  unfold okC at h
  split at h
  · rename_i vs cs
    have hc := okCL_cells (w := w) (G := G) (φ := φ) h
    have := R0_agg hc (xs := []) (us := [])
    exact ⟨this.r, this.tail (by simp), fun b => Nat.le_zero.1 (by have := this.tk b; simpa [vtk] using this)⟩
  · rename_i f p q g
    rw [Bool.and_eq_true, Bool.and_eq_true, beq_iff_eq] at h
    obtain ⟨⟨rfl, h1⟩, h2⟩ := h
    have e1 : p = #[] := by simpa using h1
    have e2 : q = #[] := by simpa using h2
    subst e1; subst e2
    exact ⟨.fn _ f [] #[] rfl (fun i hi => absurd hi (by simp)), Tail_plain rfl _, fun b => tk_plain rfl _ b⟩
  · exact one h

theorem okOpd_ok {x : Operand} {y : Opd} (h : okOpd x y = true) : OpdOk w G φ st act.tmps y (act.eval x) := by
  unfold okOpd at h
  split at h <;> first | (cases h; done) | skip
  · have := beq_iff_eq.1 h; subst this; rfl
  · have := beq_iff_eq.1 h; subst this; rfl
  · exact okC_R h
  · have := beq_iff_eq.1 h; subst this
    exact ⟨.fn _ _ [] #[] rfl (fun i hi => absurd hi (by simp)), Tail_plain rfl _, fun b => tk_plain rfl _ b⟩
theorem okArgs_ok : ∀ {xs : List Operand} {ys : List Opd}, okArgs xs ys = true → All2 (OpdOk w G φ st act.tmps) ys (xs.map act.eval)
  | [], [], _ => .nil
  | [], _ :: _, h => by simp [okArgs] at h
  | _ :: _, [], h => by simp [okArgs] at h
  | x :: xs, y :: ys, h => by
    simp only [okArgs, Bool.and_eq_true] at h
    exact .cons (okOpd_ok h.1) (okArgs_ok h.2)

theorem evs_R (h : Inv w G φ st act.tmps) : ∀ {ys : List Opd} {vs : List Value}, All2 (OpdOk w G φ st act.tmps) ys vs → All2 (R w G φ) (ys.map st.ev) vs ∧ ∀ p ∈ (ys.map st.ev).zip vs, Tail w G p.1 p.2 := by
  intro ys vs hh
  induction hh with
  | nil => exact ⟨.nil, by simp⟩
  | cons hx _ ih =>
    have := ev_R h hx
    refine ⟨.cons this.1 ih.1, fun p hp => ?_⟩
    simp only [List.map_cons, List.zip_cons_cons, List.mem_cons] at hp
    rcases hp with rfl | hp
    · exact this.2
    · exact ih.2 p hp

theorem sets_append {α : Type} (r a b : List (Nat × α)) : sets r (a ++ b) = sets (sets r a) b := by simp [sets, List.foldl_append]

/-- A result is laid where the operation says. -/
theorem put_fin {st1 : St} (h : Inv w G φ st1 act.tmps) {d : Option Nat} {nt : Nat} (hn : act.tmps.size = nt) (hd : okDst nt d = true) {y : V} {v : Value} (hr : R w G φ y v) (ht : Tail w G y v) (hc : ∀ b, cnt w φ st1 act.tmps b + tk y v b ≤ 1) :
    Inv w G φ { st1 with env := sets st1.env (dstw d y) } (act.put d v).tmps ∧ (act.put d v).tmps.size = nt ∧ (act.put d v).defers = act.defers ∧ ∀ b, cnt w φ { st1 with env := sets st1.env (dstw d y) } (act.put d v).tmps b ≤ cnt w φ st1 act.tmps b + tk y v b := by
  cases d with
  | none => exact ⟨h, hn, rfl, fun b => Nat.le_add_right _ _⟩
  | some d =>
    have hlt : d < act.tmps.size := by rw [hn]; simpa [okDst] using hd
    obtain ⟨h1, h2⟩ := h.put hlt hr ht hc
    exact ⟨h1, by simp only [Act.put, Array.size_setIfInBounds]; exact hn, rfl, h2⟩

def isStore : Op → Bool
  | .store .. => true
  | _ => false
/-- What is asked of an operation's machine side. -/
def Sound (P : Program) (o : Oper) (w : World) (G : Nat → Nat) (φ : Nat → Option Nat) (st : St) (act : Act) (nt : Nat) (st' : St) : Prop :=
  ∃ v w' G' φ', (execOp act.eval o).run P w = .ok (if isStore o.op then .skip else .value v) w' ∧
    (let act' := if isStore o.op then act.put o.dst undef else act.put o.dst v
     Inv w' G' φ' st' act'.tmps ∧ act'.tmps.size = nt ∧ act'.defers = act.defers ∧ Goes w G φ st act.tmps w' G' φ' st' act'.tmps)

theorem sound_value {o : Oper} {nt : Nat} {st' : St} {v : Value} {w' : World} {G' : Nat → Nat} {φ' : Nat → Option Nat} (hop : ∀ t a x, o.op ≠ .store t a x) (hrun : (execOp act.eval o).run P w = .ok (.value v) w') (h : Inv w' G' φ' st' (act.put o.dst v).tmps ∧ (act.put o.dst v).tmps.size = nt ∧ (act.put o.dst v).defers = act.defers ∧ Goes w G φ st act.tmps w' G' φ' st' (act.put o.dst v).tmps) :
    Sound P o w G φ st act nt st' := by
  have hm : isStore o.op = false := by
    unfold isStore
    split
    · rename_i t a x he; exact absurd he (hop t a x)
    · rfl
  refine ⟨v, w', G', φ', ?_, ?_⟩
  · rw [hm]; exact hrun
  · simp only [hm]; exact h

theorem sound_p {o : Oper} {a : AOp} {f : PK} {args : List Opd} {nt : Nat} {e : Eff} (hd : o.dst = a.dst) (hdd : okDst nt a.dst = true) (hk : a.k = .p f args) (h1 : okPK P o.op f = true) (h2 : okArgs (opArgs o.op) args = true) (h3 : (mslots args).Nodup)
    (he : eff a st = some e) (h : Inv w G φ st act.tmps) (hn : act.tmps.size = nt) : Sound P o w G φ st act nt (st.app e) := by
  unfold eff at he
  rw [hk] at he
  simp only at he
  obtain ⟨y, hy, rfl⟩ := Option.map_eq_some_iff.1 he
  have hargs := okArgs_ok (w := w) (G := G) (φ := φ) (st := st) (act := act) h2
  obtain ⟨hx, htl⟩ := evs_R h hargs
  obtain ⟨v, hrun, hres⟩ := pf_ok h1 hx hy
  obtain ⟨st1, rfl, i1, i2, _⟩ := h.moves args _ hargs h3
  have hcc : ∀ b, cnt w φ { st with env := sets st.env (st.moves args) } act.tmps b + tk y v b ≤ cnt w φ st act.tmps b := fun b => by
    have := hres.tk b
    have := i2 b
    omega
  have hfin := put_fin i1 hn (d := o.dst) (by rw [hd]; exact hdd) hres.r (hres.tail htl) (fun b => by have := hcc b; have := h.cnt b; omega)
  have hst : st.app ⟨st.moves args ++ dstw a.dst y, [], 0, none⟩ = ⟨sets (sets st.env (st.moves args)) (dstw o.dst y), st.loc, st.heap, st.ctr⟩ := by
    rw [hd]; simp [St.app, sets_append, sets]
  refine sound_value (G' := G) (φ' := φ) ?_ hrun ?_
  · intro t p x hs
    rw [hs] at h1
    cases f <;> cases h1
  · rw [hst]
    refine ⟨hfin.1, hfin.2.1, hfin.2.2.1, ⟨Ext.refl _ _, fun _ _ h => h, fun b _ hb => ⟨rfl, rfl, ?_⟩, Nat.le_refl _⟩⟩
    have h5 : cnt w φ ⟨sets (sets st.env (st.moves args)) (dstw o.dst y), st.loc, st.heap, st.ctr⟩ (act.put o.dst v).tmps b ≤ _ := hfin.2.2.2 b
    have := hcc b
    omega

theorem sound_a {o : Oper} {a : AOp} {f : AF} {args : List Opd} {nt : Nat} {e : Eff} (hd : o.dst = a.dst) (hdd : okDst nt a.dst = true) (hk : a.k = .a f args) (h1 : okAF P o.op f = true) (h2 : okArgs (opArgs o.op) args = true) (h3 : (mslots args).Nodup)
    (he : eff a st = some e) (h : Inv w G φ st act.tmps) (hn : act.tmps.size = nt) : Sound P o w G φ st act nt (st.app e) := by
  unfold eff at he
  rw [hk] at he
  simp only at he
  obtain ⟨y, hy, rfl⟩ := Option.map_eq_some_iff.1 he
  have hargs := okArgs_ok (w := w) (G := G) (φ := φ) (st := st) (act := act) h2
  obtain ⟨hx, htl⟩ := evs_R h hargs
  obtain ⟨v, w', G', hrun, hmk⟩ := af_ok h1 hx htl h.zero hy
  obtain ⟨st1, rfl, i1, i2, _⟩ := h.moves args _ hargs h3
  have hown : ∀ b, cnt w φ { st with env := sets st.env (st.moves args) } act.tmps b ≠ 0 → w'.heap[b]? = w.heap[b]? ∧ G' b = G b := fun b hb => by
    refine hmk.same b (i1.lt hb) ?_
    have := i2 b
    have := h.cnt b
    omega
  have i3 := i1.ext hmk.ext (fun _ _ h => h) st.ctr i1.ctr hown hmk.zero
  have hcc : ∀ b, cnt w' φ { st with env := sets st.env (st.moves args) } act.tmps b = cnt w φ { st with env := sets st.env (st.moves args) } act.tmps b := cnt_congr i1 (fun _ _ h => h) fun b hb => (hown b hb).1
  have hbig : ∀ b, w.heap.size ≤ b → cnt w φ st act.tmps b = 0 := fun b hb => by
    rcases Nat.eq_zero_or_pos (cnt w φ st act.tmps b) with e | e
    · exact e
    · have := h.lt (Nat.pos_iff_ne_zero.1 e); omega
  have hfin := put_fin (w := w') (G := G') (st1 := { st with env := sets st.env (st.moves args) }) i3 hn (d := o.dst) (by rw [hd]; exact hdd) hmk.r hmk.tail (fun b => by
    rw [hcc b]
    have h1 := hmk.tk b
    have h2 := i2 b
    have h3 := h.cnt b
    split at h1
    · rename_i hb; have := hbig b hb; omega
    · omega)
  have hst : st.app ⟨st.moves args ++ dstw a.dst y, [], 0, none⟩ = ⟨sets (sets st.env (st.moves args)) (dstw o.dst y), st.loc, st.heap, st.ctr⟩ := by
    rw [hd]; simp [St.app, sets_append, sets]
  refine sound_value (G' := G') (φ' := φ) ?_ hrun ?_
  · intro t p x hs
    rw [hs] at h1
    cases f <;> cases h1
  · rw [hst]
    refine ⟨hfin.1, hfin.2.1, hfin.2.2.1, ⟨hmk.ext, fun _ _ h => h, fun b hb hc => ?_, Nat.le_refl _⟩⟩
    have h2 := i2 b
    have hs := hmk.same b hb (by omega)
    refine ⟨hs.1, hs.2, ?_⟩
    have h4 : cnt w' φ ⟨sets (sets st.env (st.moves args)) (dstw o.dst y), st.loc, st.heap, st.ctr⟩ (act.put o.dst v).tmps b ≤ _ := hfin.2.2.2 b
    rw [hcc b] at h4
    have h1 := hmk.tk b
    rw [if_neg (by omega)] at h1
    omega

end
end Go.Proofs.Ytnodepfoahmcmaa.E

/- The engine, part V: each abstract operation stands for the program's. Second half: components, boxes. Conditions: none. -/
namespace Go.Proofs.Ytnodepfoahmcmaa.E
set_option linter.unusedVariables false
set_option linter.unusedSimpArgs false

section
variable {P : Program} {w : World} {G : Nat → Nat} {φ : Nat → Option Nat} {st : St} {act : Act} {ts : Array Value}

/-- A slot's value is told anew, with fewer rights. -/
theorem Inv.reset (h : Inv w G φ st ts) {n : Nat} {x x' : V} (hx : get st.env n = some x) (hr : R w G φ x' (ts.getD n undef)) (ht : Tail w G x' (ts.getD n undef)) (hle : ∀ b, tk x' (ts.getD n undef) b ≤ tk x (ts.getD n undef) b) :
    Inv w G φ { st with env := set st.env n x' } ts ∧ ∀ b, E.cnt w φ { st with env := set st.env n x' } ts b + tk x (ts.getD n undef) b = E.cnt w φ st ts b + tk x' (ts.getD n undef) b := by
  have hc : ∀ b, E.cnt w φ { st with env := set st.env n x' } ts b + tk x (ts.getD n undef) b = E.cnt w φ st ts b + tk x' (ts.getD n undef) b := fun b => by
    have := sum_set (fun p : Nat × V => tk p.2 (ts.getD p.1 undef) b) h.sorted n x'
    rw [hx] at this
    simp only at this
    unfold E.cnt envTk
    have e : E.live { st with env := set st.env n x' } = E.live st := rfl
    simp only [e]
    omega
  refine ⟨⟨set_sorted h.sorted _ _, h.sortedL, h.sortedH, fun p hp => ?_, h.live, fun b => ?_, h.ctr, h.zero⟩, hc⟩
  · rcases mem_set h.sorted hp with rfl | ⟨hp, hne⟩
    · exact ⟨(h.env _ (get_mem hx)).1, hr, ht⟩
    · exact h.env p hp
  · have := hc b
    have := h.cnt b
    have := hle b
    omega

def tkT (xs : List V) (us : List Value) (b : Nat) : Nat := ((xs.zip us).map fun p => sumTk (p.1.cells.zip p.2.cells.toList) b).sum
theorem sumTk_flatMap {α : Type} (f : α → List (V × Value)) (b : Nat) : ∀ l : List α, sumTk (l.flatMap f) b = (l.map fun a => sumTk (f a) b).sum
  | [] => rfl
  | a :: l => by rw [List.flatMap_cons, sumTk_append, sumTk_flatMap f b l]; simp
theorem tk_tup (xs : List V) (us : Array Value) (b : Nat) : tk (.tup xs) (.tuple us) b = tkT xs us.toList b := by
  unfold tk tkT
  rw [show leaves (.tup xs) (.tuple us) = (xs.zip us.toList).flatMap fun p => p.1.cells.zip p.2.cells.toList from rfl, sumTk_flatMap]
theorem sumTk_junk (v : Value) (b : Nat) : sumTk (V.junk.cells.zip v.cells.toList) b = 0 := sumTk_zero fun p hp => by
  obtain ⟨a, c⟩ := p
  have := (List.of_mem_zip hp).1
  simp [V.cells] at this
  subst this
  rfl
theorem tkT_set : ∀ (xs : List V) (us : List Value) (i : Nat) (x : V) (u : Value) (b : Nat), xs[i]? = some x → us[i]? = some u → tkT (xs.set i .junk) us b + sumTk (x.cells.zip u.cells.toList) b = tkT xs us b
  | [], _, i, x, u, b, h, _ => by simp at h
  | _ :: _, [], i, x, u, b, _, h => by simp at h
  | y :: xs, v :: us, 0, x, u, b, h, h' => by
    simp at h h'
    subst h; subst h'
    simp only [List.set_cons_zero, tkT, List.zip_cons_cons, List.map_cons, List.sum_cons, sumTk_junk]
    omega
  | y :: xs, v :: us, i + 1, x, u, b, h, h' => by
    have := tkT_set xs us i x u b (by simpa using h) (by simpa using h')
    simp only [List.set_cons_succ, tkT, List.zip_cons_cons, List.map_cons, List.sum_cons] at this ⊢
    omega
theorem mem_zip_set : ∀ (xs : List V) (us : List Value) (i : Nat) (p : V × Value), p ∈ (xs.set i .junk).zip us → p.1 = .junk ∨ p ∈ xs.zip us
  | [], _, _, p, h => by simp at h
  | _ :: _, [], _, p, h => by simp at h
  | y :: xs, v :: us, 0, p, h => by
    simp only [List.set_cons_zero, List.zip_cons_cons, List.mem_cons] at h ⊢
    rcases h with rfl | h
    · exact .inl rfl
    · exact .inr (.inr h)
  | y :: xs, v :: us, i + 1, p, h => by
    simp only [List.set_cons_succ, List.zip_cons_cons, List.mem_cons] at h ⊢
    rcases h with rfl | h
    · exact .inr (.inl rfl)
    · rcases mem_zip_set xs us i p h with h | h
      · exact .inl h
      · exact .inr (.inr h)

theorem sound_extr {o : Oper} {a : AOp} {s i : Nat} {nt : Nat} {e : Eff} (hd : o.dst = a.dst) (hdd : okDst nt a.dst = true) (hk : a.k = .extr s i) (hop : o.op = .extract (.tmp s) i) (he : eff a st = some e) (h : Inv w G φ st act.tmps) (hn : act.tmps.size = nt) : Sound P o w G φ st act nt (st.app e) := by
  unfold eff at he
  rw [hk] at he
  simp only at he
  split at he <;> first | (cases he; done) | skip
  rename_i vs hg
  obtain ⟨x, hx, he⟩ := Option.bind_eq_some_iff.1 he
  have hnt : ∀ zs, x ≠ .tup zs := by
    rintro zs rfl; simp at he
  have he' : e = ⟨(s, .tup (vs.set i .junk)) :: dstw a.dst x, [], 0, none⟩ := by
    cases x <;> first | (simp at he; exact he.symm) | (exact absurd rfl (hnt _))
  subst he'
  clear he
  obtain ⟨h1, h2, h3⟩ := h.env _ (get_mem hg)
  simp only at h1 h2 h3
  generalize hv : act.tmps.getD s undef = v at h2 h3
  cases h2 with
  | tup _ _ us hl hr =>
    obtain ⟨hi, rfl⟩ := List.getElem?_eq_some_iff.1 hx
    have hiu : i < us.size := by omega
    have hu : us[i]? = some (us.getD i undef) := by rw [Array.getElem?_eq_getElem hiu]; simp [Array.getD, hiu]
    have hul : us.toList[i]? = some (us.getD i undef) := by rw [Array.getElem?_toList]; exact hu
    have hrun : (execOp act.eval o).run P w = .ok (.value (us.getD i undef)) w := by
      unfold execOp; rw [hop]
      refine exec_v ?_
      have : act.eval (.tmp s) = .tuple us := hv
      rw [this]
      unfold Instr.extract
      simp only [hu]
      rfl
    have htl : ∀ p ∈ leaves vs[i] (us.getD i undef), Tail1 w G p.1 p.2 := fun p hp => by
      rw [leaves_of_not_tup hnt] at hp
      refine h3 p ?_
      rw [show leaves (.tup vs) (.tuple us) = (vs.zip us.toList).flatMap fun p => p.1.cells.zip p.2.cells.toList from rfl, List.mem_flatMap]
      refine ⟨(vs[i], us.getD i undef), List.mem_iff_getElem.2 ⟨i, by rw [List.length_zip]; simp; omega, ?_⟩, hp⟩
      rw [List.getElem_zip]
      simp [Array.getD, hiu]
    have hset : ∀ b, tk (.tup (vs.set i .junk)) (.tuple us) b + tk vs[i] (us.getD i undef) b = tk (.tup vs) (.tuple us) b := fun b => by
      rw [tk_tup, tk_tup]
      unfold tk
      rw [leaves_of_not_tup hnt]
      exact tkT_set vs us.toList i _ _ b hx hul
    obtain ⟨i1, i2⟩ := h.reset (x' := .tup (vs.set i .junk)) hg (by
      rw [hv]
      refine .tup _ _ us (by rw [List.length_set]; exact hl) fun j hj => ?_
      rw [List.length_set] at hj
      rw [List.getElem_set]
      split
      · exact .junk _ _
      · exact hr j hj) (by
      rw [hv]
      intro p hp
      rw [show leaves (.tup (vs.set i .junk)) (.tuple us) = ((vs.set i .junk).zip us.toList).flatMap fun p => p.1.cells.zip p.2.cells.toList from rfl, List.mem_flatMap] at hp
      obtain ⟨q, hq, hp⟩ := hp
      rcases mem_zip_set _ _ _ _ hq with hj | hq
      · rw [hj] at hp
        obtain ⟨c, d⟩ := p
        have := (List.of_mem_zip hp).1
        simp [V.cells] at this
        subst this
        trivial
      · refine h3 p ?_
        rw [show leaves (.tup vs) (.tuple us) = (vs.zip us.toList).flatMap fun p => p.1.cells.zip p.2.cells.toList from rfl, List.mem_flatMap]
        exact ⟨q, hq, hp⟩) (fun b => by rw [hv]; have := hset b; omega)
    have hcc : ∀ b, cnt w φ { st with env := set st.env s (.tup (vs.set i .junk)) } act.tmps b + tk vs[i] (us.getD i undef) b = cnt w φ st act.tmps b := fun b => by
      have a1 := i2 b
      rw [hv] at a1
      have a2 := hset b
      omega
    have hfin := put_fin i1 hn (d := o.dst) (by rw [hd]; exact hdd) (hr i hi) htl (fun b => by have := hcc b; have := h.cnt b; omega)
    have hst : st.app ⟨(s, .tup (vs.set i .junk)) :: dstw a.dst vs[i], [], 0, none⟩ = ⟨sets (set st.env s (.tup (vs.set i .junk))) (dstw o.dst vs[i]), st.loc, st.heap, st.ctr⟩ := by
      rw [hd]; simp [St.app, sets]
    refine sound_value (G' := G) (φ' := φ) (by intro t p x hs; rw [hop] at hs; cases hs) hrun ?_
    rw [hst]
    refine ⟨hfin.1, hfin.2.1, hfin.2.2.1, ⟨Ext.refl _ _, fun _ _ h => h, fun b _ hb => ⟨rfl, rfl, ?_⟩, Nat.le_refl _⟩⟩
    have h5 : cnt w φ ⟨sets (set st.env s (.tup (vs.set i .junk))) (dstw o.dst vs[i]), st.loc, st.heap, st.ctr⟩ (act.put o.dst (us.getD i undef)).tmps b ≤ _ := hfin.2.2.2 b
    have := hcc b
    omega

end
end Go.Proofs.Ytnodepfoahmcmaa.E

/- The engine, part W: boxes. Conditions: none. -/
namespace Go.Proofs.Ytnodepfoahmcmaa.E
set_option linter.unusedVariables false
set_option linter.unusedSimpArgs false

section
variable {P : Program} {w : World} {G : Nat → Nat} {φ : Nat → Option Nat} {st : St} {act : Act} {ts : Array Value}

theorem oneCell_ok {x : V} {v : Value} (h : R w G φ x v) (hn : okCell x = true) : v.oneCell' = true := by
  cases h with
  | junk | agg | tup => exact absurd hn (by simp [okCell])
  | _ => rfl

/-- What a box holds, cell by cell. -/
theorem boxRep (b m : Nat) (cs : List V) (cells : Array Value) (el : TypeId) (fr : Nat × Nat) (h1 : φ b = some m) (h2 : G m = 0) (h3 : w.heap[m]? = some (.cells cells el fr)) (h4 : unfr cells fr) (h5 : cs.length ≤ cells.size) (h6 : ∀ v ∈ cells, v.oneCell' = true)
    (h7 : ∀ i (h : i < cs.length), R w G φ cs[i] (cells.getD i undef) ∧ Tail1 w G cs[i] (cells.getD i undef)) : BlkRep w G φ b (boxB cs) := by
  refine ⟨m, h1, h2, cells, el, fr, h3, h4, fun x hx => ?_, ?_, h6, fun i hi => ?_⟩
  · rw [List.mem_singleton] at hx; subst hx; rfl
  · simpa using h5
  · have e : ([V.agg cs].flatMap V.cells) = cs := by simp [V.cells]
    have hi' : i < cs.length := by rw [e] at hi; exact hi
    have : ([V.agg cs].flatMap V.cells)[i] = cs[i] := by simp only [e]
    rw [this]
    exact h7 i hi'
theorem boxRep_out {b : Nat} {cs : List V} (h : BlkRep w G φ b (boxB cs)) : ∃ (m : Nat) (cells : Array Value) (el : TypeId) (fr : Nat × Nat), φ b = some m ∧ G m = 0 ∧ w.heap[m]? = some (.cells cells el fr) ∧ unfr cells fr ∧ cs.length ≤ cells.size ∧ (∀ v ∈ cells, v.oneCell' = true) ∧
    ∀ i (h : i < cs.length), R w G φ cs[i] (cells.getD i undef) ∧ Tail1 w G cs[i] (cells.getD i undef) := by
  obtain ⟨m, h1, h2, cells, el, fr, h3, h4, _, h5, h6, h7⟩ := h
  have e : ([V.agg cs].flatMap V.cells) = cs := by simp [V.cells]
  refine ⟨m, cells, el, fr, h1, h2, h3, h4, by simpa using h5, h6, fun i hi => ?_⟩
  have := h7 i (by rw [e]; exact hi)
  simp only [e] at this
  exact this

theorem lv_box {b m : Nat} {cs : List V} (h : φ b = some m) (q : Nat) : lv w φ q (b, boxB cs) = (if m = q then 1 else 0) + sumTk (cs.zip (mvals w m)) q := by
  simp only [lv, h, boxB, bcells]
  simp [V.cells]

theorem mvals_cells {m : Nat} {cells : Array Value} {el : TypeId} {fr : Nat × Nat} (h : w.heap[m]? = some (.cells cells el fr)) : mvals w m = cells.toList := by simp [mvals, h]

/-- A value's own cells, with their rights. -/
theorem cells_tails {y : V} {v : Value} (hr : R w G φ y v) (hs : solid y = true) (ht : Tail w G y v) : v.cells.size = y.cells.length ∧ (∀ i (h : i < y.cells.length), R w G φ y.cells[i] (v.cells.getD i undef) ∧ Tail1 w G y.cells[i] (v.cells.getD i undef)) ∧ ∀ b, tk y v b = sumTk (y.cells.zip v.cells.toList) b := by
  have hc := cells_solid hr hs
  have hnt : ∀ vs, y ≠ .tup vs := by rintro vs rfl; simp [solid] at hs
  refine ⟨hc.1, fun i hi => ⟨hc.2 i hi, ?_⟩, fun b => by unfold tk; rw [leaves_of_not_tup hnt]⟩
  have hiu : i < v.cells.size := by rw [hc.1]; exact hi
  refine ht (y.cells[i], v.cells.getD i undef) ?_
  rw [leaves_of_not_tup hnt]
  refine List.mem_iff_getElem.2 ⟨i, by rw [List.length_zip]; simp; omega, ?_⟩
  rw [List.getElem_zip]
  simp [Array.getD, hiu]

theorem ext_alloc (hz : ∀ b, w.heap.size ≤ b → G b = 0) (o : Obj) : Ext w G (w.alloc o) G := ext_alloc0 hz o

theorem sumTk_le_vtk {y : V} {v : Value} (b : Nat) : vtk [y] [v] b = tk y v b := by simp [vtk]

/-- The machine lays a value into a new box. -/
theorem sound_box {o : Oper} {a : AOp} {s : Nat} {x : Opd} {nt : Nat} {e : Eff} {v : Value} {el : TypeId} (hd : o.dst = a.dst) (hdd : okDst nt a.dst = true) (hk : a.k = .box s x) (hns : ∀ t p x, o.op ≠ .store t p x)
    (hrun : (execOp act.eval o).run P w = .ok (.value (.pointer (some ⟨w.heap.size, 0, none⟩))) (w.alloc (.cells v.cells el)))
    (hx : OpdOk w G φ st act.tmps x v ∨ (∃ y, x = .c y ∧ solid y = true ∧ PCells (R0 w G φ) y.cells v.cells))
    (he : eff a st = some e) (h : Inv w G φ st act.tmps) (hn : act.tmps.size = nt) : Sound P o w G φ st act nt (st.app e) := by
  unfold eff at he
  rw [hk] at he
  simp only at he
  split at he <;> first | (cases he; done) | skip
  rename_i hb
  obtain ⟨hsol, hall⟩ := hb
  injection he with he; subst he
  -- the value that is boxed
  have hy : ∃ st1 : St, st1 = { st with env := sets st.env (st.moves [x]) } ∧ Inv w G φ st1 act.tmps ∧ (∀ b, cnt w φ st1 act.tmps b + sumTk ((st.ev x).cells.zip v.cells.toList) b = cnt w φ st act.tmps b) ∧ v.cells.size = (st.ev x).cells.length ∧ ∀ i (h : i < (st.ev x).cells.length), R w G φ (st.ev x).cells[i] (v.cells.getD i undef) ∧ Tail1 w G (st.ev x).cells[i] (v.cells.getD i undef) := by
    rcases hx with hx | ⟨y, rfl, hsy, hpc⟩
    · obtain ⟨hr, ht⟩ := ev_R h hx
      obtain ⟨c1, c2, c3⟩ := cells_tails hr hsol ht
      obtain ⟨st1, e1, i1, i2, _⟩ := h.moves [x] [v] (.cons hx .nil) (by cases x <;> simp [mslots])
      refine ⟨st1, e1, i1, fun b => ?_, c1, c2⟩
      have := i2 b
      rw [List.map_cons, List.map_nil, sumTk_le_vtk, c3 b] at this
      exact this
    · refine ⟨st, by simp [St.moves, sets], h, fun b => ?_, hpc.1, fun i hi => ⟨(hpc.2 i hi).1, (hpc.2 i hi).2.2⟩⟩
      have : sumTk (y.cells.zip v.cells.toList) b = 0 := sumTk_zero fun p hp => by
        obtain ⟨i, hi, rfl⟩ := List.mem_iff_getElem.1 hp
        rw [List.length_zip] at hi
        have hvl : v.cells.toList.length = v.cells.size := Array.length_toList
        have hps := hpc.1
        rw [List.getElem_zip]
        have := (hpc.2 i (by omega)).2.1 b
        have e : v.cells.toList[i]'(by omega) = v.cells.getD i undef := by
          have : i < v.cells.size := by omega
          simp [Array.getD, this]
        simp only [e]
        exact this
      show cnt w φ st act.tmps b + sumTk (y.cells.zip v.cells.toList) b = _
      omega
  obtain ⟨st1, rfl, i1, i2, c1, c2⟩ := hy
  generalize hcs : (st.ev x).cells = cs at *
  -- the old box of that name goes
  have hdrop : ∃ i3 : Inv w G φ { st with env := sets st.env (st.moves [x]), loc := del st.loc s } act.tmps, ∀ q, cnt w φ { st with env := sets st.env (st.moves [x]), loc := del st.loc s } act.tmps q ≤ cnt w φ { st with env := sets st.env (st.moves [x]) } act.tmps q :=
    ⟨(i1.drop (List.Sublist.refl _) (del_sublist _ s) (List.Sublist.refl _)).1, (i1.drop (List.Sublist.refl _) (del_sublist _ s) (List.Sublist.refl _)).2⟩
  obtain ⟨i3, i4⟩ := hdrop
  obtain ⟨φ', hφ'⟩ : ∃ φ' : Nat → Option Nat, φ' = fun b => if b = st.ctr then some w.heap.size else φ b := ⟨_, rfl⟩
  have hmono : ∀ b m, φ b = some m → φ' b = some m := fun b m hb => by
    rw [hφ']
    have := h.ctr b m hb
    simp only
    rw [if_neg (by omega), hb]
  have hext := ext_alloc h.zero (.cells v.cells el)
  have hown : ∀ b, cnt w φ { st with env := sets st.env (st.moves [x]), loc := del st.loc s } act.tmps b ≠ 0 → (w.alloc (.cells v.cells el)).heap[b]? = w.heap[b]? ∧ G b = G b := fun b hb => ⟨heap_alloc_old w _ (i3.lt hb), rfl⟩
  have hsz : (w.alloc (.cells v.cells el)).heap.size = w.heap.size + 1 := Array.size_push ..
  have i5 := i3.ext hext hmono (st.ctr + 1) (fun b m hb => by
    rw [hφ'] at hb
    simp only at hb
    split at hb
    · omega
    · have := h.ctr b m hb; omega) hown (fun b hb => h.zero b (by rw [hsz] at hb; omega))
  have hcc : ∀ b, cnt (w.alloc (.cells v.cells el)) φ' ⟨sets st.env (st.moves [x]), del st.loc s, st.heap, st.ctr + 1⟩ act.tmps b = cnt w φ { st with env := sets st.env (st.moves [x]), loc := del st.loc s } act.tmps b := fun b => cnt_congr i3 hmono (fun b hb => (hown b hb).1) b
  have hnew : φ' st.ctr = some w.heap.size := by rw [hφ']; simp
  have hblk : (w.alloc (.cells v.cells el)).heap[w.heap.size]? = some (.cells v.cells el) := heap_alloc_new w _
  have hall' : ∀ i (hi : i < cs.length), okCell cs[i] = true := fun i hi => List.all_eq_true.1 hall _ (List.getElem_mem hi)
  have hrep : BlkRep (w.alloc (.cells v.cells el)) G φ' st.ctr (boxB cs) := by
    refine boxRep st.ctr w.heap.size cs v.cells el (0, 0) hnew (h.zero _ (Nat.le_refl _)) hblk (fun q _ hq => by omega) (by omega) (fun u hu => ?_) (fun i hi => ⟨(c2 i hi).1.mono hext hmono, (c2 i hi).2.mono hext fun _ _ => rfl⟩)
    obtain ⟨i, hi, rfl⟩ := Array.mem_iff_getElem.1 hu
    have hi' : i < cs.length := by omega
    have := (c2 i hi').1
    have e : v.cells.getD i undef = v.cells[i] := by simp [Array.getD, hi]
    rw [e] at this
    exact oneCell_ok this (hall' i hi')
  have hlv : ∀ q, lv (w.alloc (.cells v.cells el)) φ' q (st.ctr, boxB cs) = (if w.heap.size = q then 1 else 0) + sumTk (cs.zip v.cells.toList) q := fun q => by
    rw [lv_box hnew, mvals_cells hblk]
  have hbig : ∀ b, w.heap.size ≤ b → cnt w φ st act.tmps b = 0 := fun b hb => by
    rcases Nat.eq_zero_or_pos (cnt w φ st act.tmps b) with e | e
    · exact e
    · have := h.lt (Nat.pos_iff_ne_zero.1 e); omega
  have hq : ∀ q, cnt w φ { st with env := sets st.env (st.moves [x]), loc := del st.loc s } act.tmps q + sumTk (cs.zip v.cells.toList) q ≤ cnt w φ st act.tmps q := fun q => by
    have := i4 q
    have := i2 q
    omega
  obtain ⟨i6, i7⟩ := Inv.addBox (st := ⟨sets st.env (st.moves [x]), del st.loc s, st.heap, st.ctr + 1⟩) i5 (s := s) (get_del h.sortedL s) hrep (fun q => by
    rw [hcc, hlv]
    have h1 := hq q
    have h2 := h.cnt q
    split
    · rename_i e; have := hbig q (by omega); omega
    · omega)
  rw [show set (St.mk (sets st.env (st.moves [x])) (del st.loc s) st.heap (st.ctr + 1)).loc s (st.ctr, cs) = set st.loc s (st.ctr, cs) from set_del h.sortedL s _] at i6 i7
  have hptr : R (w.alloc (.cells v.cells el)) G φ' (.ptr st.ctr cs.length 0 0) (.pointer (some ⟨w.heap.size, 0, none⟩)) := by
    have := R.ptr (w := w.alloc (.cells v.cells el)) (G := G) φ' st.ctr cs.length 0 0 w.heap.size hnew
    simpa using this
  have hfin := put_fin (st1 := ⟨sets st.env (st.moves [x]), set st.loc s (st.ctr, cs), st.heap, st.ctr + 1⟩) i6 hn (d := o.dst) (by rw [hd]; exact hdd) hptr (Tail_plain rfl _) (fun b => by rw [tk_plain rfl]; exact i6.cnt b)
  have hst : st.app ⟨st.moves [x] ++ dstw a.dst (.ptr st.ctr cs.length 0 0), [(s, (st.ctr, cs))], 1, none⟩ = ⟨sets (sets st.env (st.moves [x])) (dstw o.dst (.ptr st.ctr cs.length 0 0)), set st.loc s (st.ctr, cs), st.heap, st.ctr + 1⟩ := by
    rw [hd]; simp [St.app, sets_append, sets]
  refine sound_value (G' := G) (φ' := φ') hns hrun ?_
  rw [hst]
  refine ⟨hfin.1, hfin.2.1, hfin.2.2.1, ⟨hext, hmono, fun b hb hc => ⟨heap_alloc_old w _ hb, rfl, ?_⟩, Nat.le_succ _⟩⟩
  have h5 : cnt (w.alloc (.cells v.cells el)) φ' ⟨sets (sets st.env (st.moves [x])) (dstw o.dst (.ptr st.ctr cs.length 0 0)), set st.loc s (st.ctr, cs), st.heap, st.ctr + 1⟩ (act.put o.dst (.pointer (some ⟨w.heap.size, 0, none⟩))).tmps b ≤ _ := hfin.2.2.2 b
  have h6 : cnt (w.alloc (.cells v.cells el)) φ' ⟨sets st.env (st.moves [x]), set st.loc s (st.ctr, cs), st.heap, st.ctr + 1⟩ act.tmps b = _ := i7 b
  rw [tk_plain rfl, h6, hcc, hlv, if_neg (by omega)] at h5
  have := hq b
  omega

end
end Go.Proofs.Ytnodepfoahmcmaa.E

/- The engine, part X: boxes are read and written. Conditions: none. -/
namespace Go.Proofs.Ytnodepfoahmcmaa.E
set_option linter.unusedVariables false
set_option linter.unusedSimpArgs false

section
variable {P : Program} {w : World} {G : Nat → Nat} {φ : Nat → Option Nat} {st : St} {act : Act} {ts : Array Value}

/-- Reading cells of a block. -/
theorem run_loadBlk {m off : Nat} {n : Option Nat} {t : TypeId} {cs : List V} {cells : Array Value} {el : TypeId} {fr : Nat × Nat} {y : V} (hk : aggIs P t n = true) (hb : w.heap[m]? = some (.cells cells el fr)) (hl : cs.length ≤ cells.size)
    (hr : ∀ i (h : i < cs.length), R w G φ cs[i] (cells.getD i undef)) (hy : part cs off n = some y) : ∃ v, (loadVar t ⟨m, off, none⟩).run P w = .ok v w ∧ R w G φ y v ∧ (n = none → v = cells.getD off undef) := by
  have hget : ∀ i, i < cs.length → w.cell? ⟨m, i, none⟩ = some (cells.getD i undef) := fun i hi => by
    have h1 : i < cells.size := by omega
    rw [cell_of_row w _ _ cells el fr hb, Array.getElem?_eq_getElem h1]
    simp [Array.getD, h1]
  cases n with
  | none =>
    simp only [part] at hy
    obtain ⟨hi, rfl⟩ := List.getElem?_eq_some_iff.1 hy
    refine ⟨cells.getD off undef, ?_, hr off hi, fun _ => rfl⟩
    simp [loadVar, run_isAgg_none hk, Result.andThen, hget off hi]
  | some k =>
    simp only [part] at hy
    split at hy <;> first | (cases hy; done) | skip
    rename_i hle
    injection hy with hy; subst hy
    obtain ⟨a1, a2⟩ := run_isAgg_some hk w
    have hld := run_loadCells (P := P) w ⟨m, off, none⟩ k (fun j => cells.getD (off + j) undef) (fun j hj => by rw [add_none]; exact hget _ (by omega))
    refine ⟨.agg ((List.range k).map fun j => cells.getD (off + j) undef).toArray, by simp [loadVar, a1, a2, Result.andThen, hld], .agg _ _ _ (by simp; omega) fun i hi => ?_, fun h => by cases h⟩
    have hi' : i < k := by simp at hi; omega
    rw [List.getElem_take, List.getElem_drop]
    have : (((List.range k).map fun j => cells.getD (off + j) undef).toArray).getD i undef = cells.getD (off + i) undef := by simp [Array.getD, hi']
    rw [this]
    exact hr (off + i) (by omega)

theorem sumTk_set : ∀ (cs : List V) (vs : List Value) (i : Nat) (c c' : V) (v : Value) (b : Nat), cs[i]? = some c → vs[i]? = some v → sumTk ((cs.set i c').zip vs) b + tk1 c v b = sumTk (cs.zip vs) b + tk1 c' v b
  | [], _, _, _, _, _, _, h, _ => by simp at h
  | _ :: _, [], _, _, _, _, _, _, h => by simp at h
  | x :: cs, u :: vs, 0, c, c', v, b, h, h' => by
    simp at h h'
    subst h; subst h'
    simp only [List.set_cons_zero, List.zip_cons_cons, sumTk_cons]
    omega
  | x :: cs, u :: vs, i + 1, c, c', v, b, h, h' => by
    have := sumTk_set cs vs i c c' v b (by simpa using h) (by simpa using h')
    simp only [List.set_cons_succ, List.zip_cons_cons, sumTk_cons]
    omega

theorem sound_loadL {o : Oper} {a : AOp} {s : Nat} {p : Opd} {n : Option Nat} {tkn : Bool} {t : TypeId} {x : Operand} {nt : Nat} {e : Eff} (hd : o.dst = a.dst) (hdd : okDst nt a.dst = true) (hk : a.k = .loadL s p n tkn) (hop : o.op = .load t x) (hag : aggIs P t n = true)
    (hx : OpdOk w G φ st act.tmps p (act.eval x)) (he : eff a st = some e) (h : Inv w G φ st act.tmps) (hn : act.tmps.size = nt) : Sound P o w G φ st act nt (st.app e) := by
  have hns : ∀ t p x, o.op ≠ .store t p x := by intro t p x hs; rw [hop] at hs; cases hs
  unfold eff at he
  rw [hk] at he
  simp only at he
  have hpr := (ev_R h hx).1
  split at he <;> first | (cases he; done) | skip
  rename_i b z i off b' cs hp hg
  split at he <;> first | (cases he; done) | skip
  rename_i hb
  obtain ⟨rfl, rfl⟩ := hb
  rw [hp] at hpr
  have hlive : (b, boxB cs) ∈ live st := by rw [live_eq]; exact List.mem_append_left _ (List.mem_map.2 ⟨_, get_mem hg, rfl⟩)
  obtain ⟨m, cells, el, fr, e1, e2, e3, e4, e5, e6, e7⟩ := boxRep_out (h.live _ hlive)
  generalize hv0 : act.eval x = v0 at hpr
  cases hpr with | ptr _ _ _ _ _ m' hm =>
  rw [e1] at hm; injection hm with hm; subst hm
  have hexec : ∀ v, (loadVar t ⟨m, off, none⟩).run P w = .ok v w → (execOp act.eval o).run P w = .ok (.value v) w := fun v hv => by
    unfold execOp; rw [hop]
    refine exec_v ?_
    rw [hv0]
    simp only [Nat.zero_mul, Nat.zero_add]
    simp [Instr.loadAt, Instr.sureAddr, hv]
  cases tkn with
  | false =>
    simp only at he
    obtain ⟨y, hy, rfl⟩ := Option.map_eq_some_iff.1 he
    obtain ⟨v, hrun, hr, _⟩ := run_loadBlk hag e3 e5 (fun i hi => (e7 i hi).1) hy
    have hfin := put_fin h hn (d := o.dst) (by rw [hd]; exact hdd) hr.clr (Tail_clr _ _ _ _) (fun q => by rw [tk_clr]; exact h.cnt q)
    have hst : st.app ⟨dstw a.dst (clr y), [], 0, none⟩ = ⟨sets st.env (dstw o.dst (clr y)), st.loc, st.heap, st.ctr⟩ := by rw [hd]; simp [St.app, sets]
    refine sound_value (G' := G) (φ' := φ) hns (hexec v hrun) ?_
    rw [hst]
    refine ⟨hfin.1, hfin.2.1, hfin.2.2.1, ⟨Ext.refl _ _, fun _ _ h => h, fun q _ hq => ⟨rfl, rfl, ?_⟩, Nat.le_refl _⟩⟩
    have h5 : cnt w φ ⟨sets st.env (dstw o.dst (clr y)), st.loc, st.heap, st.ctr⟩ (act.put o.dst v).tmps q ≤ _ := hfin.2.2.2 q
    rw [tk_clr] at h5
    omega
  | true =>
    cases n with
    | some k => simp at he
    | none =>
      simp only at he
      obtain ⟨c, hc, he⟩ := Option.bind_eq_some_iff.1 he
      split at he <;> first | (cases he; done) | skip
      rename_i hok
      injection he with he; subst he
      obtain ⟨hi, rfl⟩ := List.getElem?_eq_some_iff.1 hc
      obtain ⟨v, hrun, hr, hv⟩ := run_loadBlk (y := cs[off]) hag e3 e5 (fun i hi => (e7 i hi).1) (by simp only [part]; exact hc)
      have hv' := hv rfl
      subst hv'
      have hio : off < cells.size := by omega
      have hcells : cs[off].cells = [cs[off]] := by
        generalize cs[off] = c at hok
        cases c <;> first | rfl | (simp [okCell] at hok)
      have hvc : (cells.getD off undef).cells = #[cells.getD off undef] := by
        have : (cells.getD off undef).oneCell' = true := oneCell_ok hr hok
        revert this
        generalize cells.getD off undef = u
        intro this
        cases u <;> first | rfl | (simp [Value.oneCell'] at this)
      have hnt : ∀ vs, cs[off] ≠ .tup vs := by intro vs he; rw [he] at hok; simp [okCell] at hok
      have hlv : leaves cs[off] (cells.getD off undef) = [(cs[off], cells.getD off undef)] := by
        rw [leaves_of_not_tup hnt, hcells, hvc]; rfl
      have htk : ∀ q, tk cs[off] (cells.getD off undef) q = tk1 cs[off] (cells.getD off undef) q := fun q => by unfold tk; rw [hlv]; simp [sumTk]
      have htl : Tail w G cs[off] (cells.getD off undef) := fun p hp => by rw [hlv, List.mem_singleton] at hp; subst hp; exact (e7 off hi).2
      obtain ⟨i1, i2⟩ := h.dropBox hg
      have hrep : BlkRep w G φ b (boxB (cs.set off (clr1 cs[off]))) := boxRep b m _ cells el fr e1 e2 e3 e4 (by rw [List.length_set]; exact e5) e6 (fun k hk => by
        rw [List.length_set] at hk
        rw [List.getElem_set]
        split
        · rename_i ek; subst ek; exact ⟨(e7 _ hk).1.clr1, Tail1_clr1 _ _ _ _⟩
        · exact e7 k hk)
      have hsum : ∀ q, lv w φ q (b, boxB (cs.set off (clr1 cs[off]))) + tk1 cs[off] (cells.getD off undef) q = lv w φ q (b, boxB cs) := fun q => by
        rw [lv_box e1, lv_box e1, mvals_cells e3]
        have := sumTk_set cs cells.toList off cs[off] (clr1 cs[off]) (cells.getD off undef) q hc (by rw [Array.getElem?_toList, Array.getElem?_eq_getElem hio]; simp [Array.getD, hio])
        rw [tk1_clr1] at this
        omega
      obtain ⟨i3, i4⟩ := i1.addBox (s := s) (b := b) (cs := cs.set off (clr1 cs[off])) (get_del h.sortedL s) hrep (fun q => by
        have := i2 q; have := hsum q; have := h.cnt q
        omega)
      rw [show set ({ st with loc := del st.loc s } : St).loc s (b, cs.set off (clr1 cs[off])) = set st.loc s (b, cs.set off (clr1 cs[off])) from set_del h.sortedL s _] at i3 i4
      have hcc : ∀ q, cnt w φ { st with loc := set st.loc s (b, cs.set off (clr1 cs[off])) } act.tmps q + tk cs[off] (cells.getD off undef) q = cnt w φ st act.tmps q := fun q => by
        have h1 : cnt w φ { st with loc := set st.loc s (b, cs.set off (clr1 cs[off])) } act.tmps q = _ := i4 q
        have := i2 q; have := hsum q
        rw [htk]
        omega
      have hfin := put_fin (st1 := { st with loc := set st.loc s (b, cs.set off (clr1 cs[off])) }) i3 hn (d := o.dst) (by rw [hd]; exact hdd) hr htl (fun q => by have := hcc q; have := h.cnt q; omega)
      have hst : st.app ⟨dstw a.dst cs[off], [(s, (b, cs.set off (clr1 cs[off])))], 0, none⟩ = ⟨sets st.env (dstw o.dst cs[off]), set st.loc s (b, cs.set off (clr1 cs[off])), st.heap, st.ctr⟩ := by rw [hd]; simp [St.app, sets]
      refine sound_value (G' := G) (φ' := φ) hns (hexec _ hrun) ?_
      rw [hst]
      refine ⟨hfin.1, hfin.2.1, hfin.2.2.1, ⟨Ext.refl _ _, fun _ _ h => h, fun q _ hq => ⟨rfl, rfl, ?_⟩, Nat.le_refl _⟩⟩
      have h5 : cnt w φ ⟨sets st.env (dstw o.dst cs[off]), set st.loc s (b, cs.set off (clr1 cs[off])), st.heap, st.ctr⟩ (act.put o.dst (cells.getD off undef)).tmps q ≤ _ := hfin.2.2.2 q
      have := hcc q
      omega

theorem sound_storeL {o : Oper} {a : AOp} {s n : Nat} {p x : Opd} {t : TypeId} {oa ov : Operand} {nt : Nat} {e : Eff} (hd : o.dst = a.dst) (hdd : okDst nt a.dst = true) (hk : a.k = .storeL s n p x) (hop : o.op = .store t oa ov) (hsz : szIs P t n = true)
    (hp0 : OpdOk w G φ st act.tmps p (act.eval oa)) (hx0 : OpdOk w G φ st act.tmps x (act.eval ov)) (he : eff a st = some e) (h : Inv w G φ st act.tmps) (hn : act.tmps.size = nt) : Sound P o w G φ st act nt (st.app e) := by
  unfold eff at he
  rw [hk] at he
  simp only at he
  have hpr := (ev_R h hp0).1
  split at he <;> first | (cases he; done) | skip
  rename_i b z i off b' cs hp hg
  split at he <;> first | (cases he; done) | skip
  rename_i hb
  obtain ⟨rfl, rfl, hyn, hle, hsol, hall⟩ := hb
  injection he with he; subst he
  rw [hp] at hpr
  generalize hv0 : act.eval oa = v0 at hpr
  obtain ⟨hyr, hyt⟩ := ev_R h hx0
  generalize hv : act.eval ov = v at hyr hyt hx0
  obtain ⟨c1, c2, c3⟩ := cells_tails hyr hsol hyt
  obtain ⟨st1, rfl, i1, i2, _⟩ := h.moves [x] [v] (.cons hx0 .nil) (by cases x <;> simp [mslots])
  obtain ⟨i3, i4⟩ := i1.dropBox hg
  have hlive : (b, boxB cs) ∈ live st := by rw [live_eq]; exact List.mem_append_left _ (List.mem_map.2 ⟨_, get_mem hg, rfl⟩)
  obtain ⟨m, cells, el, fr, e1, e2, e3, e4, e5, e6, e7⟩ := boxRep_out (h.live _ hlive)
  cases hpr with | ptr _ _ _ _ _ m' hm =>
  rw [e1] at hm; injection hm with hm; subst hm
  generalize hys : (st.ev x).cells = ys at *
  have hvl : v.cells.toList.length = n := by rw [Array.length_toList, c1, hyn]
  obtain ⟨cells', b1, b2, b3⟩ := setCells_row' v.cells.toList off w cells e3 (by omega)
  obtain ⟨s1, s2, s3, s4⟩ := setCells_same' m v.cells.toList off w
  have hone : ∀ u ∈ v.cells.toList, u.oneCell' = true := fun u hu => by
    obtain ⟨k, hk, rfl⟩ := List.mem_iff_getElem.1 hu
    have hk' : k < v.cells.size := by simpa using hk
    have hk2 : k < ys.length := by omega
    have := (c2 k hk2).1
    have e : v.cells.getD k undef = v.cells.toList[k] := by simp [Array.getD, hk']
    rw [e] at this
    exact oneCell_ok this (List.all_eq_true.1 hall _ (List.getElem_mem hk2))
  have hrun : (execOp act.eval o).run P w = .ok .skip (w.setCells m off v.cells.toList) := by
    have hst := run_storeCells_cells (P := P) m off v.cells.toList 0 w (fun j hj => by
      rw [Nat.add_zero, cell_of_row w _ _ cells el fr e3, Array.getElem?_eq_getElem (by omega)]; rfl) (fun j hj => by
      have := e4 (off + j) (by omega)
      simp only [World.frozen?, e3, Nat.add_zero]
      simpa using this) hone
    simp only [Nat.add_zero] at hst
    unfold execOp; rw [hop]
    simp only [hv0, hv, Nat.zero_mul, Nat.zero_add]
    have hvs : v.cells.size = n := by rw [c1, hyn]
    simp [Instr.storeAt, Instr.sureAddr, storeVar, run_szIs hsz, hvs, hst]
  have hm1 : cnt w φ st act.tmps m = 1 ∧ cnt w φ ⟨sets st.env (st.moves [x]), del st.loc s, st.heap, st.ctr⟩ act.tmps m = 0 := by
    have a1 := i4 m
    have a2 := i2 m
    have a3 := h.cnt m
    rw [lv_box e1, if_pos rfl] at a1
    have a4 : cnt w φ ⟨sets st.env (st.moves [x]), del st.loc s, st.heap, st.ctr⟩ act.tmps m + _ = cnt w φ ⟨sets st.env (st.moves [x]), st.loc, st.heap, st.ctr⟩ act.tmps m := a1
    have a5 : cnt w φ ⟨sets st.env (st.moves [x]), st.loc, st.heap, st.ctr⟩ act.tmps m + _ = _ := a2
    omega
  have hext : Ext w G (w.setCells m off v.cells.toList) G := by
    refine ⟨fun _ => Nat.le_refl _, fun q k hq => ?_, fun q cc ee ff hc => ?_, by omega, s1, s2, s3⟩
    · by_cases eq : q = m
      · subst eq; rw [e2] at hq; omega
      · exact cell_same (setCells_far' _ _ _ eq) k
    · by_cases eq : q = m
      · subst eq
        rw [e3] at hc
        injection hc with hc; injection hc with d1 d2 d3
        subst d1; subst d2; subst d3
        exact ⟨cells', _, b1, b2, .inl rfl⟩
      · exact ⟨cc, _, by rw [setCells_far' _ _ _ eq, hc], rfl, .inl rfl⟩
  have hown : ∀ q, cnt w φ ⟨sets st.env (st.moves [x]), del st.loc s, st.heap, st.ctr⟩ act.tmps q ≠ 0 → (w.setCells m off v.cells.toList).heap[q]? = w.heap[q]? ∧ G q = G q := fun q hq => ⟨setCells_far' _ _ _ fun eq => hq (eq ▸ hm1.2), rfl⟩
  have i5 := Inv.ext (st := ⟨sets st.env (st.moves [x]), del st.loc s, st.heap, st.ctr⟩) i3 hext (fun _ _ h => h) st.ctr h.ctr hown (fun q hq => h.zero q (by omega))
  have hcc : ∀ q, cnt (w.setCells m off v.cells.toList) φ ⟨sets st.env (st.moves [x]), del st.loc s, st.heap, st.ctr⟩ act.tmps q = cnt w φ ⟨sets st.env (st.moves [x]), del st.loc s, st.heap, st.ctr⟩ act.tmps q := fun q => cnt_congr i3 (fun _ _ h => h) (fun q hq => (hown q hq).1) q
  obtain ⟨ns, hns⟩ : ∃ ns, ns = cs.take off ++ ys ++ cs.drop (off + n) := ⟨_, rfl⟩
  have hnl : ns.length = cs.length := by rw [hns]; simp only [List.length_append, List.length_take, List.length_drop]; omega
  have hrep : BlkRep (w.setCells m off v.cells.toList) G φ b (boxB ns) := by
    refine boxRep b m ns cells' el fr e1 e2 b1 (fun q hq => e4 q (by omega)) (by omega) (fun u hu => ?_) (fun k hk => ?_)
    · have hul : u ∈ cells'.toList := by simpa using hu
      rw [overwritten b2 b3 (by omega)] at hul
      rcases List.mem_append.1 hul with hul | hul
      · exact e6 u (by have := List.mem_of_mem_take hul; simpa using this)
      · rcases List.mem_append.1 hul with hul | hul
        · exact hone u hul
        · exact e6 u (by have := List.mem_of_mem_drop hul; simpa using this)
    · have hmon : ∀ {c : V} {u : Value}, R w G φ c u ∧ Tail1 w G c u → R (w.setCells m off v.cells.toList) G φ c u ∧ Tail1 (w.setCells m off v.cells.toList) G c u := fun hh => ⟨hh.1.mono hext fun _ _ h => h, hh.2.mono hext fun _ _ => rfl⟩
      rw [b3]
      have hk2 : k < cs.length := by omega
      subst hns
      by_cases k1 : k < off
      · rw [if_neg (by omega)]
        have e : (cs.take off ++ ys ++ cs.drop (off + n))[k] = cs[k] := by
          rw [List.getElem_append_left (by simp; omega), List.getElem_append_left (by simp; omega), List.getElem_take]
        rw [e]
        exact hmon (e7 k hk2)
      · by_cases k2 : k < off + n
        · rw [if_pos (by omega)]
          have e : (cs.take off ++ ys ++ cs.drop (off + n))[k] = ys[k - off]'(by omega) := by
            rw [List.getElem_append_left (by simp; omega), List.getElem_append_right (by simp; omega)]
            congr 1
            simp; omega
          have e' : v.cells.toList.getD (k - off) undef = v.cells.getD (k - off) undef := by
            have : k - off < v.cells.size := by omega
            rw [List.getD_eq_getElem?_getD, List.getElem?_eq_getElem (by omega)]
            simp [Array.getD, this]
          rw [e, e']
          exact hmon (c2 _ _)
        · rw [if_neg (by omega)]
          have e : (cs.take off ++ ys ++ cs.drop (off + n))[k] = cs[k] := by
            rw [List.getElem_append_right (by simp; omega), List.getElem_drop]
            congr 1
            simp; omega
          rw [e]
          exact hmon (e7 k hk2)
  have hlv : ∀ q, lv (w.setCells m off v.cells.toList) φ q (b, boxB ns) ≤ lv w φ q (b, boxB cs) + tk (st.ev x) v q := fun q => by
    rw [lv_box e1, lv_box e1, mvals_cells b1, mvals_cells e3, overwritten b2 b3 (by omega), hns, c3 q]
    have z1 : sumTk ((cs.take off ++ ys ++ cs.drop (off + n)).zip (cells.toList.take off ++ (v.cells.toList ++ cells.toList.drop (off + v.cells.toList.length)))) q = sumTk ((cs.take off).zip (cells.toList.take off)) q + (sumTk (ys.zip v.cells.toList) q + sumTk ((cs.drop (off + n)).zip (cells.toList.drop (off + n))) q) := by
      rw [List.append_assoc, List.zip_append (by simp; omega), sumTk_append, List.zip_append (by omega), sumTk_append, hvl]
    have z2 : sumTk ((cs.take off).zip (cells.toList.take off)) q + sumTk ((cs.drop off).zip (cells.toList.drop off)) q = sumTk (cs.zip cells.toList) q := by
      rw [← sumTk_append, ← List.zip_append (by simp; omega), List.take_append_drop, List.take_append_drop]
    have z3 : sumTk ((cs.drop (off + n)).zip (cells.toList.drop (off + n))) q ≤ sumTk ((cs.drop off).zip (cells.toList.drop off)) q := by
      have z4 : sumTk (((cs.drop off).take n).zip ((cells.toList.drop off).take n)) q + sumTk (((cs.drop off).drop n).zip ((cells.toList.drop off).drop n)) q = sumTk ((cs.drop off).zip (cells.toList.drop off)) q := by
        rw [← sumTk_append, ← List.zip_append (by simp; omega), List.take_append_drop, List.take_append_drop]
      rw [List.drop_drop, List.drop_drop] at z4
      omega
    omega
  have hq : ∀ q, cnt w φ ⟨sets st.env (st.moves [x]), del st.loc s, st.heap, st.ctr⟩ act.tmps q + (lv w φ q (b, boxB cs) + tk (st.ev x) v q) = cnt w φ st act.tmps q := fun q => by
    have a1 : cnt w φ ⟨sets st.env (st.moves [x]), del st.loc s, st.heap, st.ctr⟩ act.tmps q + _ = cnt w φ ⟨sets st.env (st.moves [x]), st.loc, st.heap, st.ctr⟩ act.tmps q := i4 q
    have a2 : cnt w φ ⟨sets st.env (st.moves [x]), st.loc, st.heap, st.ctr⟩ act.tmps q + vtk (List.map st.ev [x]) [v] q = _ := i2 q
    rw [List.map_cons, List.map_nil, sumTk_le_vtk] at a2
    omega
  obtain ⟨i6, i7⟩ := Inv.addBox (st := ⟨sets st.env (st.moves [x]), del st.loc s, st.heap, st.ctr⟩) i5 (s := s) (get_del h.sortedL s) hrep (fun q => by
    rw [hcc]
    have := hlv q; have := hq q; have := h.cnt q
    omega)
  rw [show set (St.mk (sets st.env (st.moves [x])) (del st.loc s) st.heap st.ctr).loc s (b, ns) = set st.loc s (b, ns) from set_del h.sortedL s _] at i6 i7
  have hfin := put_fin (st1 := ⟨sets st.env (st.moves [x]), set st.loc s (b, ns), st.heap, st.ctr⟩) i6 hn (d := o.dst) (by rw [hd]; exact hdd) (.junk φ undef) (Tail_plain rfl _) (fun q => by rw [tk_plain rfl]; exact i6.cnt q)
  have hst : st.app ⟨st.moves [x] ++ dstw a.dst .junk, [(s, (b, cs.take off ++ ys ++ cs.drop (off + n)))], 0, none⟩ = ⟨sets (sets st.env (st.moves [x])) (dstw o.dst .junk), set st.loc s (b, ns), st.heap, st.ctr⟩ := by
    rw [hd, hns]; simp [St.app, sets_append, sets]
  have hm : isStore o.op = true := by rw [hop]; rfl
  refine ⟨undef, w.setCells m off v.cells.toList, G, φ, by rw [hm]; exact hrun, ?_⟩
  simp only [hm, if_true]
  rw [hst]
  refine ⟨hfin.1, hfin.2.1, hfin.2.2.1, ⟨hext, fun _ _ h => h, fun q hqs hq0 => ⟨setCells_far' _ _ _ fun eq => ?_, rfl, ?_⟩, Nat.le_refl _⟩⟩
  · subst eq; omega
  · have h5 : cnt (w.setCells m off v.cells.toList) φ ⟨sets (sets st.env (st.moves [x])) (dstw o.dst .junk), set st.loc s (b, ns), st.heap, st.ctr⟩ (act.put o.dst undef).tmps q ≤ _ := hfin.2.2.2 q
    have h6 : cnt (w.setCells m off v.cells.toList) φ ⟨sets st.env (st.moves [x]), set st.loc s (b, ns), st.heap, st.ctr⟩ act.tmps q = _ := i7 q
    rw [tk_plain rfl, h6, hcc] at h5
    have := hlv q; have := hq q
    omega

theorem set_set {α : Type} : ∀ (l : List (Nat × α)) (k : Nat) (x y : α), set (set l k x) k y = set l k y
  | [], k, x, y => by simp [set]
  | (a, z) :: r, k, x, y => by
    have ih := set_set r k x y
    simp only [set]
    by_cases c : k < a
    · rw [if_pos c, if_pos c]
      simp [set]
    · rw [if_neg c, if_neg c]
      by_cases c2 : k = a
      · subst c2
        simp [set]
      · rw [if_neg c2, if_neg c2]
        simp only [set]
        rw [if_neg c, if_neg c2, ih]
/-- A variable that was just laid is filled: it is not written again. -/
theorem sound_init {o : Oper} {a : AOp} {d n : Nat} {x : Opd} {t : TypeId} {ov : Operand} {nt : Nat} {e : Eff} (hdn : o.dst = none) (hk : a.k = .init d n x) (hop : o.op = .store t (.tmp d) ov) (hsz : szIs P t n = true) (hx0 : OpdOk w G φ st act.tmps x (act.eval ov))
    (hnd : (mslots [x, .m d]).Nodup) (he : eff a st = some e) (h : Inv w G φ st act.tmps) (hn : act.tmps.size = nt) : Sound P o w G φ st act nt (st.app e) := by
  unfold eff at he
  rw [hk] at he
  simp only at he
  split at he <;> first | (cases he; done) | skip
  rename_i n' hg
  split at he <;> first | (cases he; done) | skip
  rename_i hb
  obtain ⟨rfl, hyn, hall, hno, hsol⟩ := hb
  injection he with he; subst he
  obtain ⟨g1, g2, g3⟩ := h.env _ (get_mem hg)
  simp only at g1 g2 g3
  have hpd : act.eval (.tmp d) = act.tmps.getD d undef := rfl
  generalize hp : act.tmps.getD d undef = pv at g2 g3 hpd
  cases g2 with | raw _ _ blk =>
  obtain ⟨⟨cells, el, fr, e3, hsize, e4⟩, hG⟩ : Tail1 w G (.raw n') (.pointer (some ⟨blk, 0, none⟩)) := g3 (.raw n', .pointer (some ⟨blk, 0, none⟩)) (by
    have : leaves (.raw n') (.pointer (some ⟨blk, 0, none⟩)) = [(.raw n', .pointer (some ⟨blk, 0, none⟩))] := rfl
    rw [this]; simp)
  simp only at e3 hG
  obtain ⟨hyr, hyt⟩ := ev_R h hx0
  generalize hv : act.eval ov = v at hyr hyt hx0
  obtain ⟨c1, c2, c3⟩ := cells_tails hyr hsol hyt
  obtain ⟨st1, hst1, i1, i2, _⟩ := h.moves [x, .m d] [v, .pointer (some ⟨blk, 0, none⟩)] (.cons hx0 (.cons (by simp only [OpdOk]; exact hp.symm) .nil)) hnd
  have hmv : st.moves [x, .m d] = st.moves [x] ++ [(d, .junk)] := by
    cases x <;> simp [St.moves, hg, clr, clr2, clr1]
  generalize hys : (st.ev x).cells = ys at *
  have hevd : st.ev (.m d) = .raw n' := by simp [St.ev, hg]
  have htok : tk (.raw n') (.pointer (some ⟨blk, 0, none⟩)) blk = 1 := by
    show sumTk [(.raw n', .pointer (some ⟨blk, 0, none⟩))] blk = 1
    simp [sumTk, tk1]
  have hcb : E.cnt w φ st1 act.tmps blk = 0 ∧ 1 ≤ E.cnt w φ st act.tmps blk := by
    have h1 := i2 blk
    have h2 := h.cnt blk
    simp only [List.map_cons, List.map_nil, hevd, vtk, List.zip_cons_cons, List.zip_nil_right, List.sum_cons, List.sum_nil] at h1
    omega
  have hle1 : ∀ q, E.cnt w φ st1 act.tmps q ≤ E.cnt w φ st act.tmps q := fun q => by have := i2 q; omega
  have hvl : v.cells.toList.length = n' := by rw [Array.length_toList, c1, hyn]
  obtain ⟨cells', b1, b2, b3⟩ := setCells_row' v.cells.toList 0 w cells e3 (by omega)
  obtain ⟨s1, s2, s3, s4⟩ := setCells_same' blk v.cells.toList 0 w
  have hone : ∀ u ∈ v.cells.toList, u.oneCell' = true := fun u hu => by
    obtain ⟨k, hk, rfl⟩ := List.mem_iff_getElem.1 hu
    have hk' : k < v.cells.size := by simpa using hk
    have hk2 : k < ys.length := by omega
    have := (c2 k hk2).1
    have e : v.cells.getD k undef = v.cells.toList[k] := by simp [Array.getD, hk']
    rw [e] at this
    exact oneCell_ok this (List.all_eq_true.1 hall _ (List.getElem_mem hk2))
  have hrun : (execOp act.eval o).run P w = .ok .skip (w.setCells blk 0 v.cells.toList) := by
    have hst := run_storeCells_cells (P := P) blk 0 v.cells.toList 0 w (fun j hj => by
      rw [Nat.add_zero, cell_of_row w _ _ cells el fr e3, Array.getElem?_eq_getElem (by omega)]; rfl) (fun j hj => by
      have := e4 (0 + j) (by omega)
      simp only [World.frozen?, e3, Nat.add_zero]
      simpa using this) hone
    simp only [Nat.add_zero] at hst
    unfold execOp; rw [hop]
    simp only [hpd, hv]
    have hvs : v.cells.size = n' := by rw [c1, hyn]
    simp [Instr.storeAt, Instr.sureAddr, storeVar, run_szIs hsz, hvs, hst]
  obtain ⟨G', hG'⟩ : ∃ G' : Nat → Nat, G' = fun q => if q = blk then n' else G q := ⟨_, rfl⟩
  have hGb : G' blk = n' := by rw [hG']; simp
  have hGo : ∀ q, q ≠ blk → G' q = G q := fun q hq => by rw [hG']; simp [hq]
  have hblt : blk < w.heap.size := (Array.getElem?_eq_some_iff.1 e3).1
  have hext : Ext w G (w.setCells blk 0 v.cells.toList) G' := by
    refine ⟨fun q => ?_, fun q k hq => ?_, fun q cc ee ff hc => ?_, by omega, s1, s2, s3⟩
    · by_cases eq : q = blk
      · subst eq; omega
      · rw [hGo q eq]; exact Nat.le_refl _
    · by_cases eq : q = blk
      · subst eq; omega
      · exact cell_same (setCells_far' _ _ _ eq) k
    · by_cases eq : q = blk
      · subst eq
        rw [e3] at hc
        injection hc with hc; injection hc with d1 d2 d3
        subst d1; subst d2; subst d3
        exact ⟨cells', _, b1, b2, .inl rfl⟩
      · exact ⟨cc, _, by rw [setCells_far' _ _ _ eq, hc], rfl, .inl rfl⟩
  have hown : ∀ q, E.cnt w φ st1 act.tmps q ≠ 0 → (w.setCells blk 0 v.cells.toList).heap[q]? = w.heap[q]? ∧ G' q = G q := fun q hq => by
    have hqb : q ≠ blk := fun eq => hq (eq ▸ hcb.1)
    exact ⟨setCells_far' _ _ _ hqb, hGo q hqb⟩
  have hctr1 : st1.ctr = st.ctr := by rw [hst1]
  have i5 := Inv.ext (st := st1) i1 hext (fun _ _ h => h) st.ctr (by exact h.ctr) hown (fun q hq => by
    rw [hGo q (by omega)]
    exact h.zero q (by omega))
  have hcc : ∀ q, E.cnt (w.setCells blk 0 v.cells.toList) φ { st1 with ctr := st.ctr } act.tmps q = E.cnt w φ st1 act.tmps q := fun q => cnt_congr i1 (fun _ _ h => h) (fun q hq => (hown q hq).1) q
  have hst1' : ({ st1 with ctr := st.ctr } : St) = st1 := by rw [hst1]
  rw [hst1'] at i5 hcc
  have hget : get st1.env d = some .junk := by
    rw [hst1, hmv, sets_append]
    exact get_set_eq _ _ _
  have hcell : ∀ j, j < ys.length → cells'.getD j undef = v.cells.getD j undef := fun j hj => by
    rw [b3, if_pos (by omega), Nat.sub_zero, List.getD_eq_getElem?_getD, Array.getElem?_toList]
    simp [Array.getD]
    split <;> simp_all
  have hR : R (w.setCells blk 0 v.cells.toList) G' φ (.fptr (ys.map clr1) 0) (.pointer (some ⟨blk, 0, none⟩)) := by
    have := R.fptr (w := w.setCells blk 0 v.cells.toList) (G := G') φ (ys.map clr1) 0 blk 0 (fun j => cells'.getD j undef) (fun j hj => ?_) (fun j hj => ?_) (fun j hj => ?_) (by simp; omega)
    · simpa using this
    · have hj' : j < ys.length := by simpa using hj
      rw [Nat.zero_add, cell_of_row _ _ _ cells' el fr b1, Array.getElem?_eq_getElem (by omega)]
      have : j < cells'.size := by omega
      simp [Array.getD, this]
    · have hj' : j < ys.length := by simpa using hj
      rw [hcell j hj']
      exact oneCell_ok (c2 j hj').1 (List.all_eq_true.1 hall _ (List.getElem_mem hj'))
    · have hj' : j < ys.length := by simpa using hj
      rw [hcell j hj', List.getElem_map]
      exact (((c2 j hj').1.noH1 (List.all_eq_true.1 hno _ (List.getElem_mem hj'))).clr1).mono hext fun _ _ h => h
  have hpl : plainV (.fptr (ys.map clr1) 0) = true := rfl
  obtain ⟨j1, j2⟩ := i5.reset (x' := .fptr (ys.map clr1) 0) hget (by rw [hp]; exact hR) (Tail_plain hpl _) (fun b => by rw [tk_plain hpl]; exact Nat.zero_le _)
  have hfin : ∀ q, E.cnt (w.setCells blk 0 v.cells.toList) φ { st1 with env := set st1.env d (.fptr (ys.map clr1) 0) } act.tmps q = E.cnt w φ st1 act.tmps q := fun q => by
    have := j2 q
    rw [tk_plain hpl, tk_plain rfl, hcc] at this
    exact this
  have hst : st.app ⟨st.moves [x] ++ [(d, .fptr (ys.map clr1) 0)], [], 0, none⟩ = { st1 with env := set st1.env d (.fptr (ys.map clr1) 0) } := by
    rw [hst1, hmv]
    simp only [St.app, Nat.add_zero, Option.getD_none, St.mk.injEq, and_true]
    refine ⟨?_, rfl⟩
    rw [sets_append, sets_append]
    show set _ d _ = set (set _ d _) d _
    rw [set_set]
  have hm : isStore o.op = true := by rw [hop]; rfl
  refine ⟨undef, w.setCells blk 0 v.cells.toList, G', φ, by rw [hm]; exact hrun, ?_⟩
  simp only [hm, if_true]
  rw [hst, hdn]
  refine ⟨j1, hn, rfl, ⟨hext, fun _ _ h => h, fun q hqs hq0 => ?_, ?_⟩⟩
  · have hqb : q ≠ blk := fun eq => by subst eq; omega
    exact ⟨setCells_far' _ _ _ hqb, hGo q hqb, by
      have h1 := hfin q
      have h2 := hle1 q
      show E.cnt (w.setCells blk 0 v.cells.toList) φ { st1 with env := set st1.env d (.fptr (ys.map clr1) 0) } act.tmps q = 0
      omega⟩
  · show st.ctr ≤ st1.ctr
    rw [hctr1]
    exact Nat.le_refl _

end
end Go.Proofs.Ytnodepfoahmcmaa.E

/- The engine, part XA: what an operation or a call makes of the blocks, and how the state goes on. Conditions: none. -/
namespace Go.Proofs.Ytnodepfoahmcmaa.E
set_option linter.unusedVariables false
set_option linter.unusedSimpArgs false

/-- What becomes of memory. -/
structure HRes (w : World) (G : Nat → Nat) (φ : Nat → Option Nat) (args : List V) (vs : List Value) (heap : Heap) (n : Nat) (r : V) (heap' : Heap) (n' : Nat) (u : Value) (w' : World) (G' : Nat → Nat) (φ' : Nat → Option Nat) : Prop where
  rel : R w' G' φ' r u
  tail : Tail w' G' r u
  reps : ∀ p ∈ heap', BlkRep w' G' φ' p.1 p.2
  sorted : Sorted heap'
  cnt : ∀ b, tk r u b + cntH w' φ' heap' b ≤ 1
  ctr : ∀ b m, φ' b = some m → b < n'
  le : n ≤ n'
  zero : ∀ b, w'.heap.size ≤ b → G' b = 0
  ext : Ext w G w' G'
  mono : ∀ b m, φ b = some m → φ' b = some m
  fr : ∀ b, b < w.heap.size → vtk args vs b + cntH w φ heap b = 0 → w'.heap[b]? = w.heap[b]? ∧ G' b = G b ∧ tk r u b + cntH w' φ' heap' b = 0

/-- What an operation or a call may take for granted. -/
structure HPre (w : World) (G : Nat → Nat) (φ : Nat → Option Nat) (args : List V) (vs : List Value) (heap : Heap) (n : Nat) : Prop where
  ok : All2 (fun x u => R w G φ x u ∧ Tail w G x u) args vs
  reps : ∀ p ∈ heap, BlkRep w G φ p.1 p.2
  sorted : Sorted heap
  cnt : ∀ b, vtk args vs b + cntH w φ heap b ≤ 1
  ctr : ∀ b m, φ b = some m → b < n
  zero : ∀ b, w.heap.size ≤ b → G b = 0

section
variable {P : Program} {w : World} {G : Nat → Nat} {φ : Nat → Option Nat} {st : St} {act : Act} {ts : Array Value}

theorem cntH_append (l l' : Heap) (b : Nat) : cntH w φ (l ++ l') b = cntH w φ l b + cntH w φ l' b := by simp [cntH]

/-- Blocks come in. -/
theorem Inv.addHeap {env : List (Nat × V)} {loc : List (Nat × (Nat × List V))} {n : Nat} {heap : Heap} (h : Inv w G φ ⟨env, loc, [], n⟩ ts) (hr : ∀ p ∈ heap, BlkRep w G φ p.1 p.2) (hs : Sorted heap) (hc : ∀ b, E.cnt w φ ⟨env, loc, [], n⟩ ts b + cntH w φ heap b ≤ 1) :
    Inv w G φ ⟨env, loc, heap, n⟩ ts ∧ ∀ b, E.cnt w φ ⟨env, loc, heap, n⟩ ts b = E.cnt w φ ⟨env, loc, [], n⟩ ts b + cntH w φ heap b := by
  have e : ∀ b, E.cnt w φ ⟨env, loc, heap, n⟩ ts b = E.cnt w φ ⟨env, loc, [], n⟩ ts b + cntH w φ heap b := fun b => by
    simp only [E.cnt, E.live, List.append_nil, cntH_append]; omega
  refine ⟨⟨h.sorted, h.sortedL, hs, h.env, fun p hp => ?_, fun b => by rw [e b]; exact hc b, h.ctr, h.zero⟩, e⟩
  simp only [E.live, List.mem_append] at hp
  rcases hp with hp | hp
  · exact h.live p (by simp only [E.live, List.mem_append]; exact .inl hp)
  · exact hr p hp

/-- What is known of the arguments, where an operation or a call starts. -/
theorem hpre {args : List Opd} {vs : List Value} (hargs : All2 (OpdOk w G φ st act.tmps) args vs) (hnd : (mslots args).Nodup) (h : Inv w G φ st act.tmps) : HPre w G φ (args.map st.ev) vs st.heap st.ctr := by
  obtain ⟨hx, htl⟩ := evs_R h hargs
  obtain ⟨st1, rfl, i1, i2, _⟩ := h.moves args _ hargs hnd
  refine ⟨?_, fun p hp => h.live p (List.mem_append_right _ hp), h.sortedH, fun b => ?_, h.ctr, h.zero⟩
  · have key : ∀ {xs : List V} {us : List Value}, All2 (R w G φ) xs us → (∀ p ∈ xs.zip us, Tail w G p.1 p.2) → All2 (fun x u => R w G φ x u ∧ Tail w G x u) xs us := by
      intro xs us hr ht
      induction hr with
      | nil => exact .nil
      | cons hp _ ih => exact .cons ⟨hp, ht (_, _) (List.mem_cons.2 (.inl rfl))⟩ (ih fun q hq => ht q (List.mem_cons.2 (.inr hq)))
    exact key hx htl
  · have h1 := i2 b
    have h2 := h.cnt b
    have h3 : cntH w φ st.heap b ≤ E.cnt w φ { st with env := sets st.env (st.moves args) } act.tmps b := by
      simp only [E.cnt, E.live, cntH_append]; omega
    omega

/-- How the state goes on. -/
theorem goes_heap {args : List Opd} {vs : List Value} {d : Option Nat} {nt : Nat} {r : V} {heap' : Heap} {n' : Nat} {u : Value} {w' : World} {G' : Nat → Nat} {φ' : Nat → Option Nat} (hargs : All2 (OpdOk w G φ st act.tmps) args vs) (hnd : (mslots args).Nodup) (h : Inv w G φ st act.tmps) (hn : act.tmps.size = nt) (hd : okDst nt d = true)
    (H : HRes w G φ (args.map st.ev) vs st.heap st.ctr r heap' n' u w' G' φ') :
    Inv w' G' φ' (st.app ⟨st.moves args ++ dstw d r, [], n' - st.ctr, some heap'⟩) (act.put d u).tmps ∧ (act.put d u).tmps.size = nt ∧ (act.put d u).defers = act.defers ∧ Goes w G φ st act.tmps w' G' φ' (st.app ⟨st.moves args ++ dstw d r, [], n' - st.ctr, some heap'⟩) (act.put d u).tmps := by
  obtain ⟨st1, rfl, i1, i2, _⟩ := h.moves args _ hargs hnd
  have hst : st.app ⟨st.moves args ++ dstw d r, [], n' - st.ctr, some heap'⟩ = ⟨sets (sets st.env (st.moves args)) (dstw d r), st.loc, heap', n'⟩ := by
    have := H.le
    simp only [St.app, sets_append, Option.getD_some, St.mk.injEq, true_and]
    exact ⟨rfl, by omega⟩
  rw [hst]
  have split : ∀ b, E.cnt w φ { st with env := sets st.env (st.moves args) } act.tmps b = E.cnt w φ ⟨sets st.env (st.moves args), st.loc, [], st.ctr⟩ act.tmps b + cntH w φ st.heap b := fun b => by
    simp only [E.cnt, E.live, List.append_nil, cntH_append]; omega
  have iL := (i1.drop (env := sets st.env (st.moves args)) (loc := st.loc) (heap := []) (List.Sublist.refl _) (List.Sublist.refl _) (List.nil_sublist _)).1
  have hown : ∀ b, E.cnt w φ ⟨sets st.env (st.moves args), st.loc, [], st.ctr⟩ act.tmps b ≠ 0 → w'.heap[b]? = w.heap[b]? ∧ G' b = G b ∧ tk r u b + cntH w' φ' heap' b = 0 := fun b hb => by
    have h1 := i2 b; have h2 := h.cnt b; have h3 := split b
    exact H.fr b (iL.lt hb) (by omega)
  have i3 := iL.ext H.ext H.mono n' H.ctr (fun b hb => ⟨(hown b hb).1, (hown b hb).2.1⟩) H.zero
  have hcc : ∀ b, E.cnt w' φ' ⟨sets st.env (st.moves args), st.loc, [], n'⟩ act.tmps b = E.cnt w φ ⟨sets st.env (st.moves args), st.loc, [], st.ctr⟩ act.tmps b := fun b => cnt_congr iL H.mono (fun b hb => (hown b hb).1) b
  have hsum : ∀ b, E.cnt w φ ⟨sets st.env (st.moves args), st.loc, [], st.ctr⟩ act.tmps b + (tk r u b + cntH w' φ' heap' b) ≤ 1 := fun b => by
    have h1 := i2 b; have h2 := h.cnt b; have h3 := split b; have h4 := H.cnt b
    by_cases c : E.cnt w φ ⟨sets st.env (st.moves args), st.loc, [], st.ctr⟩ act.tmps b = 0
    · omega
    · have := (hown b c).2.2; omega
  obtain ⟨i4, i5⟩ := i3.addHeap H.reps H.sorted (fun b => by rw [hcc b]; have := hsum b; omega)
  have hfin := put_fin (st1 := ⟨sets st.env (st.moves args), st.loc, heap', n'⟩) i4 hn (d := d) hd H.rel H.tail (fun b => by rw [i5 b, hcc b]; have := hsum b; omega)
  refine ⟨hfin.1, hfin.2.1, hfin.2.2.1, H.ext, H.mono, fun b hb hb0 => ?_, H.le⟩
  have h1 := i2 b
  have h3 := split b
  have := H.fr b hb (by omega)
  refine ⟨this.1, this.2.1, ?_⟩
  have h4 : E.cnt w' φ' ⟨sets (sets st.env (st.moves args)) (dstw d r), st.loc, heap', n'⟩ (act.put d u).tmps b ≤ _ := hfin.2.2.2 b
  have h5 : E.cnt w' φ' ⟨sets st.env (st.moves args), st.loc, heap', n'⟩ act.tmps b = E.cnt w' φ' ⟨sets st.env (st.moves args), st.loc, [], n'⟩ act.tmps b + cntH w' φ' heap' b := i5 b
  have h6 : E.cnt w' φ' ⟨sets st.env (st.moves args), st.loc, [], n'⟩ act.tmps b = E.cnt w φ ⟨sets st.env (st.moves args), st.loc, [], st.ctr⟩ act.tmps b := hcc b
  have h7 := this.2.2
  omega

end
end Go.Proofs.Ytnodepfoahmcmaa.E

/- The engine, part XB: what becomes of memory, case by case. Conditions: none. -/
namespace Go.Proofs.Ytnodepfoahmcmaa.E
set_option linter.unusedVariables false
set_option linter.unusedSimpArgs false

section
variable {P : Program} {w : World} {G : Nat → Nat} {φ : Nat → Option Nat} {xs : List V} {vs : List Value} {heap : Heap} {n : Nat} {r : V} {u : Value}

/-- Memory stays. -/
theorem HRes.same (h : HPre w G φ xs vs heap n) (hr : R w G φ r u) (ht : Tail w G r u) (hk : ∀ b, tk r u b = 0) : HRes w G φ xs vs heap n r heap n u w G φ where
  rel := hr
  tail := ht
  reps := h.reps
  sorted := h.sorted
  cnt b := by have := h.cnt b; have := hk b; omega
  ctr := h.ctr
  le := Nat.le_refl _
  zero := h.zero
  ext := Ext.refl _ _
  mono _ _ h := h
  fr b _ hb := ⟨rfl, rfl, by have := hk b; omega⟩

theorem lv_self {b m : Nat} {blk : Blk} (hm : φ b = some m) : 1 ≤ lv w φ m (b, blk) := by
  simp only [lv, hm, if_true]; omega
theorem lv_le {b : Nat} {blk : Blk} (hg : get heap b = some blk) (q : Nat) : lv w φ q (b, blk) ≤ cntH w φ heap q := le_sum (f := lv w φ q) (get_mem hg)

/-- One block is written. -/
theorem HRes.upd {b m : Nat} {blk blk' : Blk} {w' : World} (h : HPre w G φ xs vs heap n) (hg : get heap b = some blk) (hm : φ b = some m) (hG : G m = 0) (hfar : ∀ q, q ≠ m → w'.heap[q]? = w.heap[q]?) (hsize : w'.heap.size = w.heap.size)
    (hkeep : ∀ (cs : Array Value) (el : TypeId) (fr : Nat × Nat), w.heap[m]? = some (.cells cs el fr) → ∃ cs' : Array Value, w'.heap[m]? = some (.cells cs' el fr) ∧ cs'.size = cs.size) (hos : w'.os = w.os) (htape : w'.tape = w.tape) (hout : w'.output = w.output)
    (hrep : Ext w G w' G → BlkRep w' G φ b blk') (hlv : ∀ q, lv w' φ q (b, blk') + tk r u q ≤ lv w φ q (b, blk) + vtk xs vs q) (hr : R w' G φ r u) (ht : Tail w' G r u) : HRes w G φ xs vs heap n r (set heap b blk') n u w' G φ := by
  have hext : Ext w G w' G := ⟨fun _ => Nat.le_refl _, fun q k hq => cell_same (hfar q fun e => by subst e; omega) k, fun q cc ee ff hc => by
    by_cases e : q = m
    · subst e
      obtain ⟨c, h1, h2⟩ := hkeep _ _ _ hc
      exact ⟨c, _, h1, h2, .inl rfl⟩
    · exact ⟨cc, _, by rw [hfar q e, hc], rfl, .inl rfl⟩, by omega, hos, htape, hout⟩
  -- the other blocks
  have hsum : ∀ q, ((del heap b).map (lv w φ q)).sum + lv w φ q (b, blk) = cntH w φ heap q := fun q => sum_del (lv w φ q) hg
  have hoth : ∀ p ∈ heap, p.1 ≠ b → ∀ c, lv w φ c p ≠ 0 → c ≠ m := fun p hp hne c hc e => by
    subst e
    have h1 := hsum c
    have h2 := lv_self (w := w) (blk := blk) hm
    have h3 : p ∈ del heap b := by
      have hg2 : get (del heap b) p.1 = some p.2 := by
        have e1 := get_of_mem h.sorted (show (p.1, p.2) ∈ heap from hp)
        have : ∀ (l : Heap), get l p.1 = some p.2 → get (del l b) p.1 = some p.2 := by
          intro l
          induction l with
          | nil => intro h; cases h
          | cons a l ih =>
            obtain ⟨a1, a2⟩ := a
            intro hh
            simp only [del]
            split
            · rename_i eq; subst eq; rw [get, if_neg hne] at hh; exact hh
            · rw [get] at hh ⊢
              split
              · rename_i eq; rw [if_pos eq] at hh; exact hh
              · rename_i eq; rw [if_neg eq] at hh; exact ih hh
        exact this heap e1
      exact get_mem hg2
    have h4 := le_sum (f := lv w φ c) h3
    have h5 := h.cnt c
    omega
  have hlvs : ∀ p ∈ heap, p.1 ≠ b → ∀ q, lv w' φ q p = lv w φ q p := fun p hp hne q => by
    obtain ⟨k, hk, _⟩ := (h.reps p hp).lt
    refine lv_congr hk hk (hfar k ?_) q
    exact hoth p hp hne k (by have := lv_self (w := w) (blk := p.2) hk; show lv w φ k (p.1, p.2) ≠ 0; omega)
  have hcnt : ∀ q, cntH w' φ (set heap b blk') q + lv w φ q (b, blk) = cntH w φ heap q + lv w' φ q (b, blk') := fun q => by
    have h1 := sum_set (lv w' φ q) h.sorted b blk'
    rw [hg] at h1
    simp only at h1
    have h2 : (heap.map (lv w' φ q)).sum + lv w φ q (b, blk) = (heap.map (lv w φ q)).sum + lv w' φ q (b, blk) := by
      have a1 := sum_del (lv w' φ q) hg
      have a2 := sum_del (lv w φ q) hg
      have a3 : ((del heap b).map (lv w' φ q)).sum = ((del heap b).map (lv w φ q)).sum := sum_congr fun p hp => by
        have hp' := (del_sublist heap b).subset hp
        refine hlvs p hp' (fun e => ?_) q
        have hg3 := get_del h.sorted b
        have hs3 : Sorted (del heap b) := h.sorted.sublist (del_sublist _ _)
        have := get_of_mem hs3 (show (p.1, p.2) ∈ del heap b from hp)
        rw [e, hg3] at this
        cases this
      omega
    unfold cntH
    omega
  have htot : ∀ q, tk r u q + cntH w' φ (set heap b blk') q ≤ vtk xs vs q + cntH w φ heap q := fun q => by
    have h1 := hcnt q
    have h2 := hlv q
    have h3 := lv_le (w := w) (φ := φ) hg q
    omega
  refine ⟨hr, ht, fun p hp => ?_, set_sorted h.sorted _ _, fun q => Nat.le_trans (htot q) (h.cnt q), h.ctr, Nat.le_refl _, fun q hq => h.zero q (by omega), hext, fun _ _ h => h, fun q hq h0 => ⟨hfar q fun e => ?_, rfl, ?_⟩⟩
  · rcases mem_set h.sorted hp with rfl | ⟨hp, hne⟩
    · exact hrep hext
    · exact (h.reps p hp).mono hext (fun _ _ h => h) fun c hc => ⟨hfar c (hoth p hp hne c hc), rfl⟩
  · subst e
    have := lv_le (w := w) (φ := φ) hg q
    have := lv_self (w := w) (blk := blk) hm
    omega
  · have := htot q; omega

theorem vtk_big (h : HPre w G φ xs vs heap n) {b : Nat} (hb : w.heap.size ≤ b) : vtk xs vs b + cntH w φ heap b = 0 := by
  have h1 : vtk xs vs b = 0 := by
    have hz := h.ok
    clear h
    induction hz with
    | nil => rfl
    | @cons x v xs' vs' hp _ ih =>
      have e : vtk (x :: xs') (v :: vs') b = tk x v b + vtk xs' vs' b := by simp [vtk]
      rcases Nat.eq_zero_or_pos (tk x v b) with e2 | e2
      · omega
      · have := sumTk_lt hp.2 (b := b) (Nat.pos_iff_ne_zero.1 e2); omega
  have h2 : cntH w φ heap b = 0 := sum_zero fun p hp => by
    have hr := h.reps p hp
    obtain ⟨m, hm, hlt, _⟩ := hr.lt
    simp only [lv, hm]
    rw [if_neg (by omega), Nat.zero_add]
    rcases Nat.eq_zero_or_pos (sumTk ((bcells p.2).zip (mvals w m)) b) with e | e
    · exact e
    · have := sumTk_lt (hr.tails hm) (Nat.pos_iff_ne_zero.1 e); omega
  omega

/-- A new block. -/
theorem HRes.new {obj : Obj} {blk : Blk} {φ' : Nat → Option Nat} (h : HPre w G φ xs vs heap n) (hφ' : φ' = fun b => if b = n then some w.heap.size else φ b) (hrep : Ext w G (w.alloc obj) G → (∀ b m, φ b = some m → φ' b = some m) → BlkRep (w.alloc obj) G φ' n blk)
    (hlv : ∀ q, lv (w.alloc obj) φ' q (n, blk) + tk r u q ≤ (if w.heap.size = q then 1 else 0) + vtk xs vs q) (hr : R (w.alloc obj) G φ' r u) (ht : Tail (w.alloc obj) G r u) : HRes w G φ xs vs heap n r (set heap n blk) (n + 1) u (w.alloc obj) G φ' := by
  have hext := ext_alloc (w := w) h.zero obj
  have hmono : ∀ b m, φ b = some m → φ' b = some m := fun b m hb => by
    rw [hφ']
    have := h.ctr b m hb
    simp only
    rw [if_neg (by omega), hb]
  have hsz : (w.alloc obj).heap.size = w.heap.size + 1 := Array.size_push ..
  have hne : ∀ p ∈ heap, p.1 ≠ n := fun p hp e => by
    obtain ⟨m, hm, _⟩ := (h.reps p hp).lt
    have := h.ctr _ _ hm
    omega
  have hgn : get heap n = none := by
    cases hg : get heap n with
    | none => rfl
    | some x => exact absurd rfl (hne _ (get_mem hg))
  have hlvs : ∀ p ∈ heap, ∀ q, lv (w.alloc obj) φ' q p = lv w φ q p := fun p hp q => by
    obtain ⟨k, hk, hlt, _⟩ := (h.reps p hp).lt
    exact lv_congr hk (hmono _ _ hk) (heap_alloc_old w obj hlt) q
  have hcnt : ∀ q, cntH (w.alloc obj) φ' (set heap n blk) q = cntH w φ heap q + lv (w.alloc obj) φ' q (n, blk) := fun q => by
    have h1 := sum_set (lv (w.alloc obj) φ' q) h.sorted n blk
    rw [hgn] at h1
    simp only at h1
    have h2 : (heap.map (lv (w.alloc obj) φ' q)).sum = (heap.map (lv w φ q)).sum := sum_congr fun p hp => hlvs p hp q
    unfold cntH
    omega
  refine ⟨hr, ht, fun p hp => ?_, set_sorted h.sorted _ _, fun q => ?_, fun b m hb => ?_, Nat.le_succ _, fun q hq => h.zero q (by omega), hext, hmono, fun q hq h0 => ⟨heap_alloc_old w obj hq, rfl, ?_⟩⟩
  · rcases mem_set h.sorted hp with rfl | ⟨hp, _⟩
    · exact hrep hext hmono
    · refine (h.reps p hp).mono hext hmono fun c hc => ⟨heap_alloc_old w obj ?_, rfl⟩
      rcases Nat.lt_or_ge c w.heap.size with hl | hl
      · exact hl
      · have h1 := vtk_big h hl
        have h2 : lv w φ c (p.1, p.2) ≤ (heap.map (lv w φ c)).sum := le_sum (f := lv w φ c) hp
        unfold cntH at h1
        omega
  · have h1 := hcnt q
    have h2 := hlv q
    have h3 := h.cnt q
    split at h2
    · rename_i e; have := vtk_big h (b := q) (by omega); omega
    · omega
  · rw [hφ'] at hb
    simp only at hb
    split at hb
    · omega
    · have := h.ctr b m hb; omega
  · have h1 := hcnt q
    have h2 := hlv q
    rw [if_neg (by omega)] at h2
    omega

end
end Go.Proofs.Ytnodepfoahmcmaa.E

/- The engine, part XC: boxes among the blocks; reading and writing rows. Conditions: none. -/
namespace Go.Proofs.Ytnodepfoahmcmaa.E
set_option linter.unusedVariables false
set_option linter.unusedSimpArgs false

def voidB : Op → Bool
  | .store .. | .mapUpdate .. => true
  | _ => false
/-- What an operation on blocks does. -/
def HDoes (P : Program) (w : World) (G : Nat → Nat) (φ : Nat → Option Nat) (ρ : Operand → Value) (o : Oper) (xs : List V) (heap : Heap) (n : Nat) (q : V × Heap × Nat) : Prop :=
  ∃ u w' G' φ', (execOp ρ o).run P w = .ok (if voidB o.op then .skip else .value u) w' ∧ HRes w G φ xs ((opArgs o.op).map ρ) heap n q.1 q.2.1 (n + q.2.2) u w' G' φ'

section
variable {P : Program} {w : World} {G : Nat → Nat} {φ : Nat → Option Nat} {ρ : Operand → Value} {o : Oper} {xs : List V} {heap : Heap} {n : Nat} {q : V × Heap × Nat}

theorem bcells_one (k : Nat) (cs : List V) : bcells (.rows k [.agg cs]) = cs := by simp [bcells, V.cells]

/-- A value is laid into a new block. -/
theorem new_box {ys : List V} {vs : List Value} {v : Value} {el : TypeId} (h : HPre w G φ xs vs heap n) (c1 : v.cells.size = ys.length) (c2 : ∀ i (h : i < ys.length), R w G φ ys[i] (v.cells.getD i undef) ∧ Tail1 w G ys[i] (v.cells.getD i undef)) (c3 : ∀ b, sumTk (ys.zip v.cells.toList) b ≤ vtk xs vs b) (hall : ys.all okCell = true) :
    HRes w G φ xs vs heap n (.ptr n ys.length 0 0) (set heap n (.rows ys.length [.agg ys])) (n + 1) (.pointer (some ⟨w.heap.size, 0, none⟩)) (w.alloc (.cells v.cells el)) G (fun b => if b = n then some w.heap.size else φ b) := by
  have hnew : (fun b => if b = n then some w.heap.size else φ b) n = some w.heap.size := by simp
  have hblk : (w.alloc (.cells v.cells el)).heap[w.heap.size]? = some (.cells v.cells el) := heap_alloc_new w _
  have hptr : R (w.alloc (.cells v.cells el)) G (fun b => if b = n then some w.heap.size else φ b) (.ptr n ys.length 0 0) (.pointer (some ⟨w.heap.size, 0, none⟩)) := by
    have := R.ptr (w := w.alloc (.cells v.cells el)) (G := G) (fun b => if b = n then some w.heap.size else φ b) n ys.length 0 0 w.heap.size hnew
    simpa using this
  refine HRes.new h rfl (fun hext hmono => ?_) (fun p => ?_) hptr (Tail_plain rfl _)
  · refine boxRep n w.heap.size ys v.cells el (0, 0) hnew (h.zero _ (Nat.le_refl _)) hblk (fun q _ hq => by omega) (by omega) (fun u hu => ?_) (fun i hi => ⟨(c2 i hi).1.mono hext hmono, (c2 i hi).2.mono hext fun _ _ => rfl⟩)
    obtain ⟨i, hi, rfl⟩ := Array.mem_iff_getElem.1 hu
    have hi' : i < ys.length := by omega
    have := (c2 i hi').1
    have e : v.cells.getD i undef = v.cells[i] := by simp [Array.getD, hi]
    rw [e] at this
    exact oneCell_ok this (List.all_eq_true.1 hall _ (List.getElem_mem hi'))
  · have := lv_box (w := w.alloc (.cells v.cells el)) (φ := fun b => if b = n then some w.heap.size else φ b) (b := n) (cs := ys) hnew p
    rw [mvals_cells hblk] at this
    rw [tk_plain rfl, show Blk.rows ys.length [V.agg ys] = boxB ys from rfl, this]
    have := c3 p
    omega

theorem ok_boxH {el : TypeId} {x : Operand} (hop : o.op = .box el x) (h : HPre w G φ xs ((opArgs o.op).map ρ) heap n) (hq : hf .boxH xs heap n = some q) : HDoes P w G φ ρ o xs heap n q := by
  simp only [hf] at hq
  split at hq <;> first | (cases hq; done) | skip
  rename_i y
  split at hq <;> first | (cases hq; done) | skip
  rename_i hb
  injection hq with hq; subst hq
  rw [hop] at h
  obtain ⟨v, hv, hr, ht⟩ := all2_1 h.ok
  simp only [opArgs, List.map_cons, List.map_nil, List.cons.injEq, and_true] at hv
  obtain ⟨c1, c2, c3⟩ := cells_tails hr hb.1 ht
  have H := new_box (v := v) (el := el) h c1 c2 (fun b => by
    rw [← c3 b]
    simp only [opArgs, List.map_cons, List.map_nil, hv]
    rw [sumTk_le_vtk]
    exact Nat.le_refl _) hb.2
  rw [← hop] at H
  refine ⟨_, _, _, _, ?_, H⟩
  have : voidB o.op = false := by rw [hop]; rfl
  rw [this]
  unfold execOp; rw [hop, ← hv]
  exact exec_vm rfl

theorem ok_allocH {el : TypeId} {zero : List V} (hop : o.op = .alloc el) (hz : zeroIs P el zero = true) (h : HPre w G φ xs ((opArgs o.op).map ρ) heap n) (hq : hf (.allocH zero) xs heap n = some q) : HDoes P w G φ ρ o xs heap n q := by
  simp only [hf] at hq
  split at hq <;> first | (cases hq; done) | skip
  split at hq <;> first | (cases hq; done) | skip
  rename_i hb
  injection hq with hq; subst hq
  unfold zeroIs at hz
  split at hz <;> first | (cases hz; done) | skip
  rename_i i hi
  split at hz <;> first | (cases hz; done) | skip
  rename_i z hz'
  have hpc : PCells (R0 w G φ) zero z.cells := okCL_cells hz
  have H := new_box (v := z) (el := el) h hpc.1 (fun i hi => ⟨(hpc.2 i hi).1, (hpc.2 i hi).2.2⟩) (fun b => by
    rw [sumTk_zero fun p hp => ?_]
    · exact Nat.zero_le _
    · obtain ⟨i, hi, rfl⟩ := List.mem_iff_getElem.1 hp
      rw [List.length_zip] at hi
      have hvl : z.cells.toList.length = z.cells.size := Array.length_toList
      rw [List.getElem_zip]
      have := (hpc.2 i (by omega)).2.1 b
      have e : z.cells.toList[i]'(by omega) = z.cells.getD i undef := by
        have : i < z.cells.size := by omega
        simp [Array.getD, this]
      simp only [e]
      exact this) hb
  refine ⟨_, _, _, _, ?_, H⟩
  have : voidB o.op = false := by rw [hop]; rfl
  rw [this]
  unfold execOp; rw [hop]
  refine exec_vm ?_
  unfold Instr.alloc
  rw [Sem.run_bind, run_zeroValue' hi hz', Result.andThen_ok]
  rfl

theorem lv_of {b m : Nat} {blk : Blk} (h : φ b = some m) (q : Nat) : lv w φ q (b, blk) = (if m = q then 1 else 0) + sumTk ((bcells blk).zip (mvals w m)) q := by simp only [lv, h]
theorem bldZero_out {t : TypeId} (h : bldZero P t = true) : ∃ i z, P.info? t = some i ∧ i.zero = some z ∧ z.cells = #[.pointer none, .slice none 0 0] := by
  unfold bldZero at h
  split at h <;> first | (cases h; done) | skip
  rename_i i hi
  split at h <;> first | (cases h; done) | skip
  rename_i z hz
  split at h <;> first | (cases h; done) | skip
  rename_i hc
  exact ⟨i, z, hi, hz, Array.toList_inj.1 hc⟩
theorem ok_allocB {el T e : TypeId} (hop : o.op = .alloc el) (hz : (el == T && bldZero P el) = true) (h : HPre w G φ xs ((opArgs o.op).map ρ) heap n) (hq : hf (.allocB T e) xs heap n = some q) : HDoes P w G φ ρ o xs heap n q := by
  simp only [hf] at hq
  split at hq <;> first | (cases hq; done) | skip
  injection hq with hq; subst hq
  rw [Bool.and_eq_true, beq_iff_eq] at hz
  obtain ⟨rfl, hz⟩ := hz
  obtain ⟨i, z, hi, hz', hc⟩ := bldZero_out hz
  have hnew : (fun b => if b = n then some w.heap.size else φ b) n = some w.heap.size := by simp
  have hblk : (w.alloc (.cells #[.pointer none, .slice none 0 0] el)).heap[w.heap.size]? = some (.cells #[.pointer none, .slice none 0 0] el) := heap_alloc_new w _
  have hptr : R (w.alloc (.cells #[.pointer none, .slice none 0 0] el)) G (fun b => if b = n then some w.heap.size else φ b) (.ptr n 2 0 0) (.pointer (some ⟨w.heap.size, 0, none⟩)) := by
    have := R.ptr (w := w.alloc (.cells #[.pointer none, .slice none 0 0] el)) (G := G) (fun b => if b = n then some w.heap.size else φ b) n 2 0 0 w.heap.size hnew
    simpa using this
  have H : HRes w G φ [] ((opArgs o.op).map ρ) heap n (.ptr n 2 0 0) (set heap n (.bld el e [])) (n + 1) (.pointer (some ⟨w.heap.size, 0, none⟩)) (w.alloc (.cells #[.pointer none, .slice none 0 0] el)) G (fun b => if b = n then some w.heap.size else φ b) := by
    refine HRes.new h rfl (fun hext hmono => ⟨w.heap.size, hnew, h.zero _ (Nat.le_refl _), .pointer none, .slice none 0 0, hblk, .inl rfl, .inl ⟨rfl, rfl⟩⟩) (fun p => ?_) hptr (Tail_plain rfl _)
    rw [tk_plain rfl]
    have e1 : lv (w.alloc (.cells #[.pointer none, .slice none 0 0] el)) (fun b => if b = n then some w.heap.size else φ b) p (n, .bld el e []) = (if w.heap.size = p then 1 else 0) := by
      rw [lv_of (w := w.alloc (.cells #[.pointer none, .slice none 0 0] el)) hnew, show mvals (w.alloc (.cells #[.pointer none, .slice none 0 0] el)) w.heap.size = [.pointer none, .slice none 0 0] by unfold mvals; rw [hblk]]
      simp only [bcells, sumTk, List.zip_cons_cons, List.zip_nil_right, List.map_cons, List.map_nil, List.sum_cons, List.sum_nil]
      rfl
    rw [e1]
    exact Nat.le_add_right _ _
  refine ⟨_, _, _, _, ?_, H⟩
  have : voidB o.op = false := by rw [hop]; rfl
  rw [this]
  unfold execOp; rw [hop]
  refine exec_vm ?_
  unfold Instr.alloc
  rw [Sem.run_bind, run_zeroValue' hi hz', Result.andThen_ok, ← hc]
  rfl

/-- Rows of a block. -/
theorem rows_out {b sz : Nat} {l : List V} (h : BlkRep w G φ b (.rows sz l)) : ∃ (m : Nat) (cells : Array Value) (el : TypeId) (fr : Nat × Nat), φ b = some m ∧ G m = 0 ∧ w.heap[m]? = some (.cells cells el fr) ∧ unfr cells fr ∧ (l.flatMap V.cells).length ≤ cells.size ∧ (∀ v ∈ cells, v.oneCell' = true) ∧ (∀ x ∈ l, x.cells.length = sz) ∧
    ∀ i (h : i < (l.flatMap V.cells).length), R w G φ (l.flatMap V.cells)[i] (cells.getD i undef) ∧ Tail1 w G (l.flatMap V.cells)[i] (cells.getD i undef) := by
  obtain ⟨m, h1, h2, cells, el, fr, h3, h4, h5, h6, h7, h8⟩ := h
  exact ⟨m, cells, el, fr, h1, h2, h3, h4, by rw [(flatMap_get l h5).1]; exact h6, h7, h5, h8⟩
theorem rows_in {b sz m : Nat} {l : List V} {cells : Array Value} {el : TypeId} {fr : Nat × Nat} (h1 : φ b = some m) (h2 : G m = 0) (h3 : w.heap[m]? = some (.cells cells el fr)) (h4 : unfr cells fr) (h5 : (l.flatMap V.cells).length ≤ cells.size) (h6 : ∀ v ∈ cells, v.oneCell' = true) (h7 : ∀ x ∈ l, x.cells.length = sz)
    (h8 : ∀ i (h : i < (l.flatMap V.cells).length), R w G φ (l.flatMap V.cells)[i] (cells.getD i undef) ∧ Tail1 w G (l.flatMap V.cells)[i] (cells.getD i undef)) : BlkRep w G φ b (.rows sz l) :=
  ⟨m, h1, h2, cells, el, fr, h3, h4, h7, by rw [← (flatMap_get l h7).1]; exact h5, h6, h8⟩

/-- A row among the cells. -/
theorem row_cut {sz i : Nat} {l : List V} {row : V} (hz : ∀ x ∈ l, x.cells.length = sz) (hi : l[i]? = some row) : row.cells.length = sz ∧ i * sz + sz ≤ (l.flatMap V.cells).length ∧ l.flatMap V.cells = (l.flatMap V.cells).take (i * sz) ++ row.cells ++ (l.flatMap V.cells).drop (i * sz + sz) := by
  obtain ⟨hlt, rfl⟩ := List.getElem?_eq_some_iff.1 hi
  have h1 := hz _ (List.getElem_mem hlt)
  have h2 := flatMap_set l i l[i] hz hlt
  rw [List.set_getElem_self] at h2
  refine ⟨h1, ?_, h2⟩
  rw [(flatMap_get l hz).1]
  have : (i + 1) * sz ≤ l.length * sz := Nat.mul_le_mul_right _ hlt
  rw [Nat.succ_mul] at this
  exact this

theorem part_row {F A R' B : List V} {off : Nat} {m : Option Nat} {y : V} (hF : F = A ++ R' ++ B) (hy : part R' off m = some y) : part F (A.length + off) m = some y := by
  subst hF
  cases m with
  | none =>
    simp only [part] at hy ⊢
    obtain ⟨h, _⟩ := List.getElem?_eq_some_iff.1 hy
    rw [List.append_assoc, List.getElem?_append_right (by omega), Nat.add_sub_cancel_left, List.getElem?_append_left h]
    exact hy
  | some k =>
    simp only [part] at hy ⊢
    split at hy <;> first | (cases hy; done) | skip
    rename_i hle
    rw [if_pos (by simp only [List.length_append]; omega)]
    rw [← hy, List.append_assoc, List.drop_append, List.drop_eq_nil_of_le (by omega), Nat.add_sub_cancel_left, List.nil_append, List.drop_append, List.take_append]
    have : k - (R'.drop off).length = 0 := by simp; omega
    rw [this, List.take_zero, List.append_nil]

theorem ok_loadH {t : TypeId} {x : Operand} {m : Option Nat} (hop : o.op = .load t x) (hag : aggIs P t m = true) (h : HPre w G φ xs ((opArgs o.op).map ρ) heap n) (hq : hf (.loadH m) xs heap n = some q) : HDoes P w G φ ρ o xs heap n q := by
  simp only [hf] at hq
  split at hq <;> first | (cases hq; done) | skip
  rename_i b sz i off
  split at hq <;> first | (cases hq; done) | skip
  rename_i sz' l hg
  split at hq <;> first | (cases hq; done) | skip
  rename_i hsz
  subst hsz
  obtain ⟨row, hi, hq⟩ := Option.bind_eq_some_iff.1 hq
  obtain ⟨y, hy, rfl⟩ := Option.map_eq_some_iff.1 hq
  have h0 := h
  rw [hop] at h0
  obtain ⟨v, hv, hr, _⟩ := all2_1 h0.ok
  simp only [opArgs, List.map_cons, List.map_nil, List.cons.injEq, and_true] at hv
  obtain ⟨k, cells, el, fr, e1, e2, e3, e4, e5, e6, e7, e8⟩ := rows_out (h.reps _ (get_mem hg))
  cases hr with | ptr _ _ _ _ _ m' hm =>
  rw [e1] at hm; injection hm with hm; subst hm
  obtain ⟨r1, r2, r3⟩ := row_cut e7 hi
  have hp := part_row r3 hy
  rw [List.length_take, Nat.min_eq_left (by omega)] at hp
  obtain ⟨u, hrun, hru, _⟩ := run_loadBlk (P := P) hag e3 e5 (fun i hi => (e8 i hi).1) hp
  refine ⟨u, w, G, φ, ?_, HRes.same h hru.clr (Tail_clr _ _ _ _) fun b => tk_clr _ _ _⟩
  have : voidB o.op = false := by rw [hop]; rfl
  rw [this]
  unfold execOp; rw [hop]
  refine exec_v ?_
  rw [hv]
  simp [Instr.loadAt, Instr.sureAddr, hrun]

end
end Go.Proofs.Ytnodepfoahmcmaa.E

/- The engine, part XD: writing rows. Conditions: none. -/
namespace Go.Proofs.Ytnodepfoahmcmaa.E
set_option linter.unusedVariables false
set_option linter.unusedSimpArgs false

section
variable {P : Program} {w : World} {G : Nat → Nat} {φ : Nat → Option Nat} {ρ : Operand → Value} {o : Oper} {xs : List V} {heap : Heap} {n : Nat} {q : V × Heap × Nat}

/-- Cells of a block are laid over. -/
theorem flat_store {m K : Nat} {F ys : List V} {us : List Value} {cells : Array Value} {el : TypeId} {fr : Nat × Nat} (e2 : G m = 0) (e3 : w.heap[m]? = some (.cells cells el fr)) (e5 : F.length ≤ cells.size) (e6 : ∀ v ∈ cells, v.oneCell' = true)
    (e7 : ∀ i (h : i < F.length), R w G φ F[i] (cells.getD i undef) ∧ Tail1 w G F[i] (cells.getD i undef)) (c1 : us.length = ys.length) (c2 : ∀ i (h : i < ys.length), R w G φ ys[i] (us.getD i undef) ∧ Tail1 w G ys[i] (us.getD i undef)) (hone : ∀ u ∈ us, u.oneCell' = true) (hle : K + ys.length ≤ F.length) :
    ∃ cells' : Array Value, (w.setCells m K us).heap[m]? = some (.cells cells' el fr) ∧ cells'.size = cells.size ∧ cells'.toList = cells.toList.take K ++ (us ++ cells.toList.drop (K + us.length)) ∧ (∀ v ∈ cells', v.oneCell' = true) ∧
      (Ext w G (w.setCells m K us) G → ∀ i (h : i < (F.take K ++ ys ++ F.drop (K + ys.length)).length), R (w.setCells m K us) G φ (F.take K ++ ys ++ F.drop (K + ys.length))[i] (cells'.getD i undef) ∧ Tail1 (w.setCells m K us) G (F.take K ++ ys ++ F.drop (K + ys.length))[i] (cells'.getD i undef)) := by
  obtain ⟨cells', b1, b2, b3⟩ := setCells_row' us K w cells e3 (by omega)
  have hov := overwritten b2 b3 (by omega)
  refine ⟨cells', b1, b2, hov, fun u hu => ?_, fun hext k hk => ?_⟩
  · have hul : u ∈ cells'.toList := by simpa using hu
    rw [hov] at hul
    rcases List.mem_append.1 hul with hul | hul
    · exact e6 u (by have := List.mem_of_mem_take hul; simpa using this)
    · rcases List.mem_append.1 hul with hul | hul
      · exact hone u hul
      · exact e6 u (by have := List.mem_of_mem_drop hul; simpa using this)
  · have hmon : ∀ {c : V} {u : Value}, R w G φ c u ∧ Tail1 w G c u → R (w.setCells m K us) G φ c u ∧ Tail1 (w.setCells m K us) G c u := fun hh => ⟨hh.1.mono hext fun _ _ h => h, hh.2.mono hext fun _ _ => rfl⟩
    rw [b3]
    have hk2 : k < F.length := by simp at hk; omega
    by_cases k1 : k < K
    · rw [if_neg (by omega)]
      have e : (F.take K ++ ys ++ F.drop (K + ys.length))[k] = F[k] := by
        rw [List.getElem_append_left (by simp; omega), List.getElem_append_left (by simp; omega), List.getElem_take]
      rw [e]
      exact hmon (e7 k hk2)
    · by_cases k2 : k < K + ys.length
      · rw [if_pos (by omega)]
        have e : (F.take K ++ ys ++ F.drop (K + ys.length))[k] = ys[k - K]'(by omega) := by
          rw [List.getElem_append_left (by simp; omega), List.getElem_append_right (by simp; omega)]
          congr 1
          simp; omega
        rw [e]
        exact hmon (c2 _ _)
      · rw [if_neg (by omega)]
        have e : (F.take K ++ ys ++ F.drop (K + ys.length))[k] = F[k] := by
          rw [List.getElem_append_right (by simp; omega), List.getElem_drop]
          congr 1
          simp; omega
        rw [e]
        exact hmon (e7 k hk2)

theorem flat_tk {K : Nat} {F ys : List V} {us cs : List Value} (c1 : us.length = ys.length) (e5 : F.length ≤ cs.length) (hle : K + ys.length ≤ F.length) (p : Nat) : sumTk ((F.take K ++ ys ++ F.drop (K + ys.length)).zip (cs.take K ++ (us ++ cs.drop (K + us.length)))) p ≤ sumTk (F.zip cs) p + sumTk (ys.zip us) p := by
  have z1 : sumTk ((F.take K ++ ys ++ F.drop (K + ys.length)).zip (cs.take K ++ (us ++ cs.drop (K + us.length)))) p = sumTk ((F.take K).zip (cs.take K)) p + (sumTk (ys.zip us) p + sumTk ((F.drop (K + ys.length)).zip (cs.drop (K + ys.length))) p) := by
    rw [List.append_assoc, List.zip_append (by simp; omega), sumTk_append, List.zip_append (by omega), sumTk_append, c1]
  have z2 : sumTk ((F.take K).zip (cs.take K)) p + sumTk ((F.drop K).zip (cs.drop K)) p = sumTk (F.zip cs) p := by
    rw [← sumTk_append, ← List.zip_append (by simp; omega), List.take_append_drop, List.take_append_drop]
  have z3 : sumTk ((F.drop (K + ys.length)).zip (cs.drop (K + ys.length))) p ≤ sumTk ((F.drop K).zip (cs.drop K)) p := by
    have z4 : sumTk (((F.drop K).take ys.length).zip ((cs.drop K).take ys.length)) p + sumTk (((F.drop K).drop ys.length).zip ((cs.drop K).drop ys.length)) p = sumTk ((F.drop K).zip (cs.drop K)) p := by
      rw [← sumTk_append, ← List.zip_append (by simp; omega), List.take_append_drop, List.take_append_drop]
    rw [List.drop_drop, List.drop_drop] at z4
    omega
  omega

theorem lv_rows {b m sz : Nat} {l : List V} {cells : Array Value} {el : TypeId} {fr : Nat × Nat} (h : φ b = some m) (hb : w.heap[m]? = some (.cells cells el fr)) (p : Nat) : lv w φ p (b, .rows sz l) = (if m = p then 1 else 0) + sumTk ((l.flatMap V.cells).zip cells.toList) p := by
  simp only [lv, h, bcells, mvals_cells hb]

theorem reRow_cells {old : V} {cs : List V} (hc : ∀ c ∈ cs, c.cells = [c]) : (reRow old cs).cells = cs := by
  unfold reRow
  split
  · rfl
  · exact hc _ (by simp)
  · rfl
theorem okCell_cells {c : V} (h : okCell c = true) : c.cells = [c] := by cases c <;> first | rfl | (simp [okCell] at h)

/-- A block's cells are laid over: what becomes of memory. -/
theorem rows_store {b sz K m : Nat} {l l' : List V} {ys : List V} {us vs : List Value} {cells : Array Value} {el : TypeId} {fr : Nat × Nat} {r : V} {u : Value} (h : HPre w G φ xs vs heap n) (hg : get heap b = some (.rows sz l)) (e1 : φ b = some m) (e2 : G m = 0) (e3 : w.heap[m]? = some (.cells cells el fr)) (e4 : unfr cells fr) (e5 : (l.flatMap V.cells).length ≤ cells.size)
    (e6 : ∀ v ∈ cells, v.oneCell' = true) (e8 : ∀ i (h : i < (l.flatMap V.cells).length), R w G φ (l.flatMap V.cells)[i] (cells.getD i undef) ∧ Tail1 w G (l.flatMap V.cells)[i] (cells.getD i undef)) (c1 : us.length = ys.length) (c2 : ∀ i (h : i < ys.length), R w G φ ys[i] (us.getD i undef) ∧ Tail1 w G ys[i] (us.getD i undef))
    (hone : ∀ u ∈ us, u.oneCell' = true) (hle : K + ys.length ≤ (l.flatMap V.cells).length) (hl : l'.flatMap V.cells = (l.flatMap V.cells).take K ++ ys ++ (l.flatMap V.cells).drop (K + ys.length)) (hl7 : ∀ x ∈ l', x.cells.length = sz) (hv : ∀ p, sumTk (ys.zip us) p ≤ vtk xs vs p) (hr : ∀ w', R w' G φ r u) (hp : plainV r = true) :
    HRes w G φ xs vs heap n r (set heap b (.rows sz l')) n u (w.setCells m K us) G φ := by
  obtain ⟨cells', b1, b2, b3, b4, b5⟩ := flat_store e2 e3 e5 e6 e8 c1 c2 hone hle
  obtain ⟨s1, s2, s3, s4⟩ := setCells_same' m us K w
  refine HRes.upd h hg e1 e2 (fun p hp => setCells_far' _ _ _ hp) s4 (fun cs el' fr' hc => ?_) s1 s2 s3 (fun hext => ?_) (fun p => ?_) (hr _) (Tail_plain hp _)
  · rw [e3] at hc
    injection hc with hc; injection hc with d1 d2 d3
    subst d1; subst d2; subst d3
    exact ⟨cells', b1, b2⟩
  · refine rows_in e1 e2 b1 (fun p hp => e4 p (by omega)) ?_ b4 hl7 ?_
    · rw [hl, b2]; simp only [List.length_append, List.length_take, List.length_drop]; omega
    · rw [hl]; exact b5 hext
  · rw [lv_rows e1 b1, lv_rows e1 e3, tk_plain hp, hl, b3]
    have := flat_tk (K := K) (F := l.flatMap V.cells) (cs := cells.toList) c1 (by simpa using e5) hle p
    have := hv p
    omega

theorem ok_storeH {t : TypeId} {oa ov : Operand} {k : Nat} (hop : o.op = .store t oa ov) (hsz : szIs P t k = true) (h : HPre w G φ xs ((opArgs o.op).map ρ) heap n) (hq : hf (.storeH k) xs heap n = some q) : HDoes P w G φ ρ o xs heap n q := by
  simp only [hf] at hq
  split at hq <;> first | (cases hq; done) | skip
  rename_i b sz i off y
  split at hq <;> first | (cases hq; done) | skip
  rename_i sz' l hg
  split at hq <;> first | (cases hq; done) | skip
  rename_i hc
  obtain ⟨rfl, hyk, hoff, hsol, hall⟩ := hc
  obtain ⟨row, hi, rfl⟩ := Option.map_eq_some_iff.1 hq
  have h0 := h
  rw [hop] at h0
  obtain ⟨v1, v2, hv, ⟨r1, t1⟩, ⟨r2, t2⟩⟩ := all2_2 h0.ok
  simp only [opArgs, List.map_cons, List.map_nil, List.cons.injEq, and_true] at hv
  obtain ⟨m, cells, el, fr, e1, e2, e3, e4, e5, e6, e7, e8⟩ := rows_out (h.reps _ (get_mem hg))
  cases r1 with | ptr _ _ _ _ _ m' hm =>
  rw [e1] at hm; injection hm with hm; subst hm
  obtain ⟨rl, rle, rF⟩ := row_cut e7 hi
  obtain ⟨c1, c2, c3⟩ := cells_tails r2 hsol t2
  have hvl : v2.cells.toList.length = k := by rw [Array.length_toList, c1, hyk]
  have hilt : i < l.length := (List.getElem?_eq_some_iff.1 hi).1
  have hone : ∀ u ∈ v2.cells.toList, u.oneCell' = true := fun u hu => by
    obtain ⟨j, hj, rfl⟩ := List.mem_iff_getElem.1 hu
    have hj' : j < v2.cells.size := by simpa using hj
    have hj2 : j < y.cells.length := by omega
    have := (c2 j hj2).1
    have e : v2.cells.getD j undef = v2.cells.toList[j] := by simp [Array.getD, hj']
    rw [e] at this
    exact oneCell_ok this (List.all_eq_true.1 hall _ (List.getElem_mem hj2))
  -- the row's cells are fit to stand in a row
  have hrow : ∀ c ∈ row.cells, c.cells = [c] := fun c hc => by
    obtain ⟨j, hj, rfl⟩ := List.mem_iff_getElem.1 hc
    have hlt : i * sz + j < (l.flatMap V.cells).length := by omega
    have hF : (l.flatMap V.cells)[i * sz + j] = row.cells[j] := by
      obtain ⟨_, hr⟩ := List.getElem?_eq_some_iff.1 hi
      subst hr
      exact (flatMap_get l e7).2 i j hilt hj hlt
    have h1 := (e8 _ hlt).1
    rw [hF] at h1
    have h2 : (cells.getD (i * sz + j) undef).oneCell' = true := e6 _ (by
      have : i * sz + j < cells.size := by omega
      simp [Array.getD, this])
    generalize cells.getD (i * sz + j) undef = u at h1 h2
    generalize row.cells[j] = c at h1
    cases h1 <;> first | rfl | (simp [Value.oneCell'] at h2)
  have hnew : (reRow row (row.cells.take off ++ y.cells ++ row.cells.drop (off + k))).cells = row.cells.take off ++ y.cells ++ row.cells.drop (off + k) := reRow_cells fun c hc => by
    rcases List.mem_append.1 hc with hc | hc
    · rcases List.mem_append.1 hc with hc | hc
      · exact hrow c (List.mem_of_mem_take hc)
      · exact okCell_cells (List.all_eq_true.1 hall c hc)
    · exact hrow c (List.mem_of_mem_drop hc)
  have hset := flatMap_set l i (reRow row (row.cells.take off ++ y.cells ++ row.cells.drop (off + k))) e7 hilt
  rw [hnew] at hset
  have hl : (l.set i (reRow row (row.cells.take off ++ y.cells ++ row.cells.drop (off + k)))).flatMap V.cells = (l.flatMap V.cells).take (i * sz + off) ++ y.cells ++ (l.flatMap V.cells).drop (i * sz + off + y.cells.length) := by
    rw [hset, hyk]
    generalize hF : l.flatMap V.cells = F at rF rle
    have hA : (F.take (i * sz)).length = i * sz := by rw [List.length_take]; omega
    have t1 : F.take (i * sz + off) = F.take (i * sz) ++ row.cells.take off := by
      conv => lhs; rw [rF]
      rw [List.append_assoc, List.take_append, List.take_of_length_le (by omega), hA, Nat.add_sub_cancel_left, List.take_append_of_le_length (by omega)]
    have t2 : F.drop (i * sz + off + k) = row.cells.drop (off + k) ++ F.drop (i * sz + sz) := by
      conv => lhs; rw [rF]
      rw [List.append_assoc, List.drop_append, List.drop_eq_nil_of_le (by omega), hA, List.nil_append, List.drop_append_of_le_length (by omega)]
      congr 2
      omega
    rw [t1, t2]
    simp only [List.append_assoc]
  have hrun : (execOp ρ o).run P w = .ok .skip (w.setCells m (i * sz + off) v2.cells.toList) := by
    have hst := run_storeCells_cells (P := P) m (i * sz + off) v2.cells.toList 0 w (fun j hj => by
      rw [Nat.add_zero, cell_of_row w _ _ cells el fr e3, Array.getElem?_eq_getElem (by omega)]; rfl) (fun j hj => by
      have := e4 (i * sz + off + j) (by omega)
      simp only [World.frozen?, e3, Nat.add_zero]
      simpa using this) hone
    simp only [Nat.add_zero] at hst
    unfold execOp; rw [hop]
    simp only [hv.1, hv.2]
    have hvs : v2.cells.size = k := by rw [c1, hyk]
    simp [Instr.storeAt, Instr.sureAddr, storeVar, run_szIs hsz, hvs, hst]
  have H := rows_store (K := i * sz + off) (l' := l.set i (reRow row (row.cells.take off ++ y.cells ++ row.cells.drop (off + k)))) (us := v2.cells.toList) (ys := y.cells) (r := .junk) (u := undef) h hg e1 e2 e3 e4 e5 e6 e8 (by omega) (fun j hj => by
    have e : v2.cells.toList.getD j undef = v2.cells.getD j undef := by
      have : j < v2.cells.size := by omega
      rw [List.getD_eq_getElem?_getD, List.getElem?_eq_getElem (by omega)]
      simp [Array.getD, this]
    rw [e]
    exact c2 j hj) hone (by omega) hl (fun x hx => by
    rcases List.mem_or_eq_of_mem_set hx with hx | rfl
    · exact e7 x hx
    · rw [hnew]; simp only [List.length_append, List.length_take, List.length_drop]; omega) (fun p => by
    rw [← c3 p, hop]
    simp [vtk, opArgs, hv.2]) (fun w' => .junk _ _) rfl
  refine ⟨undef, _, _, _, ?_, H⟩
  have : voidB o.op = true := by rw [hop]; rfl
  rw [this]
  exact hrun

end
end Go.Proofs.Ytnodepfoahmcmaa.E

/- The engine, part XE: maps, read. Conditions: none. -/
namespace Go.Proofs.Ytnodepfoahmcmaa.E
open Go.MapKept
set_option linter.unusedVariables false
set_option linter.unusedSimpArgs false

section
variable {P : Program} {w : World} {G : Nat → Nat} {φ φ' : Nat → Option Nat} {ρ : Operand → Value} {o : Oper} {xs : List V} {heap : Heap} {n : Nat} {q : V × Heap × Nat}

theorem bytes_dec (s s' : ByteArray) : (s == s') = decide (s.data.toList = s'.data.toList) := by
  by_cases h : s = s'
  · subst h
    have : (s == s) = true := (bytes_beq s s).2 rfl
    rw [this]; simp
  · have h1 : (s == s') = false := by
      cases hb : (s == s') with
      | false => rfl
      | true => exact absurd ((bytes_beq s s').1 hb) h
    have h2 : ¬ s.data.toList = s'.data.toList := fun e => h (by
      cases s; cases s'
      simp only at e
      rw [Array.toList_inj.1 e])
    rw [h1]; simp [h2]

theorem sameNow_ok {kt : TypeId} {d : TypeDesc} {k : Nat} (hd : P.underlying kt = some d) (hk : keyIs P kt [k] = true) {x y : V} {a b : Value} {r : Bool} (hx : R w G φ x a) (hy : R w G φ' y b) (he : eq1 k x y = some r) : Instr.sameNow d a b = some r ∧ (r = true → a = b ∧ Instr.sameBits 10000 b a = true) := by
  unfold keyIs at hk
  rw [hd] at hk
  unfold eq1 at he
  split at he <;> first | (cases he; done) | skip
  · have he' := Option.some.inj he
    cases hx; cases hy
    rename_i p p'
    cases d <;> first | (simp at hk; done) | skip
    subst he'
    refine ⟨by simp [Instr.sameNow]; cases p <;> cases p' <;> rfl, fun h => ?_⟩
    have : p = p' := by simpa using h
    subst this
    exact ⟨rfl, by simp [Instr.sameBits]⟩
  · split at he <;> first | (cases he; done) | skip
    rename_i hkk
    have he' := Option.some.inj he
    cases hx; cases hy
    cases d <;> first | (simp at hk; done) | skip
    subst hkk
    subst he'
    rename_i p p' kk
    refine ⟨by simp only [Instr.sameNow, if_pos]; congr 1, fun h => ?_⟩
    have : p = p' := by simpa using h
    subst this
    exact ⟨rfl, by simp [Instr.sameBits]⟩
  · have he' := Option.some.inj he
    cases hx; cases hy
    rename_i s s'
    cases d <;> first | (simp at hk; done) | skip
    subst he'
    refine ⟨by simp only [Instr.sameNow]; rw [bytes_dec], fun h => ?_⟩
    have h2 : s.data.toList = s'.data.toList := by simpa using h
    have : s = s' := by
      cases s; cases s'
      simp only at h2
      rw [Array.toList_inj.1 h2]
    subst this
    exact ⟨rfl, by simp [Instr.sameBits, bytes_beq]⟩

/-- The rows of a map side by side. -/
structure MRep (w : World) (G : Nat → Nat) (φ : Nat → Option Nat) (es : List (V × V)) (en : List MapEntry) : Prop where
  len : en.length = es.length
  at_ : ∀ i (h : i < es.length) (h' : i < en.length), R w G (fun _ => none) es[i].1 en[i].key ∧ R w G φ es[i].2 en[i].val ∧ (∀ vs, es[i].2 ≠ .tup vs) ∧ es[i].2.cells.length = en[i].val.cells.size ∧ Tail w G es[i].2 en[i].val
theorem MRep.tail {e : V × V} {m : MapEntry} {es : List (V × V)} {en : List MapEntry} (h : MRep w G φ (e :: es) (m :: en)) : MRep w G φ es en :=
  ⟨by have := h.len; simpa using this, fun i h1 h2 => by have := h.at_ (i + 1) (by simpa using h1) (by simpa using h2); simpa using this⟩

theorem map_out {b : Nat} {es : List (V × V)} (h : BlkRep w G φ b (.map es)) : ∃ (m : Nat) (en : Array MapEntry) (clk : Nat), φ b = some m ∧ G m = 0 ∧ w.heap[m]? = some (.map en clk) ∧ (∀ e ∈ en, e.born < clk) ∧ MRep w G φ es en.toList := by
  obtain ⟨m, h1, h2, en, clk, h3, h4, h5, h6⟩ := h
  exact ⟨m, en, clk, h1, h2, h3, h5, by simpa using h4, fun i hi hi' => by simpa using h6 i hi (by simpa using hi')⟩
theorem map_in {b m clk : Nat} {es : List (V × V)} {en : Array MapEntry} (h1 : φ b = some m) (h2 : G m = 0) (h3 : w.heap[m]? = some (.map en clk)) (h4 : ∀ e ∈ en, e.born < clk) (h5 : MRep w G φ es en.toList) : BlkRep w G φ b (.map es) :=
  ⟨m, h1, h2, en, clk, h3, by simpa using h5.len, h4, fun i hi hi' => by
    have := h5.at_ i hi (by simpa using hi')
    simp only [Array.getElem_toList] at this
    exact this⟩

/-- What is found. -/
theorem find_ok {kt : TypeId} {d : TypeDesc} {ks : List Nat} (hd : P.underlying kt = some d) (hk : keyIs P kt ks = true) {x : V} {a : Value} (hx : R w G φ x a) : ∀ (es : List (V × V)) (en : List MapEntry) (i : Nat) (q : Option (Nat × V)), MRep w G φ' es en → findK false ks x es i = some q →
    (q = none ∧ Instr.findNow d a en i = some none) ∨ ∃ j, j < es.length ∧ ∃ (h1 : j < es.length) (h2 : j < en.length), q = some (i + j, es[j].2) ∧ Instr.findNow d a en i = some (some (i + j, en[j].val)) ∧ en[j].key = a ∧ Instr.sameBits 10000 en[j].key a = true := by
  obtain ⟨k, rfl⟩ : ∃ k, ks = [k] := by
    unfold keyIs at hk
    split at hk <;> first | (cases hk; done) | exact ⟨_, beq_iff_eq.1 hk⟩
  intro es
  induction es with
  | nil =>
    intro en i q hm hf
    obtain rfl : en = [] := List.eq_nil_of_length_eq_zero hm.len
    simp only [findK, Option.some.injEq] at hf
    exact .inl ⟨hf.symm, rfl⟩
  | cons e es ih =>
    intro en i q hm hf
    cases en with
    | nil => exact absurd hm.len (by simp)
    | cons m en =>
      simp only [findK] at hf
      obtain ⟨r, hr, hf⟩ := Option.bind_eq_some_iff.1 hf
      have h0 := hm.at_ 0 (by simp) (by simp)
      simp only [List.getElem_cons_zero] at h0
      obtain ⟨s1, s2⟩ := sameNow_ok hd hk hx h0.1 (show eq1 k x e.1 = some r from hr)
      cases r with
      | true =>
        simp only [if_true, Option.some.injEq] at hf
        obtain ⟨t1, t2⟩ := s2 rfl
        exact .inr ⟨0, by simp, by simp, by simp, by rw [← hf]; simp, by simp [Instr.findNow, s1], by simp [t1], by simpa using t2⟩
      | false =>
        simp only [Bool.false_eq_true, if_false] at hf
        rcases ih en (i + 1) q hm.tail hf with ⟨h1, h2⟩ | ⟨j, hj, h1, h2, h3, h4, h5, h6⟩
        · exact .inl ⟨h1, by simp [Instr.findNow, s1, h2]⟩
        · refine .inr ⟨j + 1, by simp; omega, by simp; omega, by simp; omega, ?_, ?_, by simpa using h5, by simpa using h6⟩
          · rw [h3]; simp; omega
          · simp only [Instr.findNow, s1, h4]; simp; omega

theorem checkKey_ok {kt : TypeId} {d : TypeDesc} {ks : List Nat} (hd : P.underlying kt = some d) (hk : keyIs P kt ks = true) (e : Bool) (a : Value) (w : World) : (Instr.checkKey e 10000 kt a).run P w = .ok () w := by
  unfold keyIs at hk
  rw [hd] at hk
  show (Instr.checkKey e (9999 + 1) kt a).run P w = .ok () w
  unfold Instr.checkKey
  simp only [Sem.run_bind, run_underlying hd, Result.andThen]
  cases d <;> first | rfl | (simp at hk; done)

end
end Go.Proofs.Ytnodepfoahmcmaa.E

/- The engine, part XF: maps, made, read and written. Conditions: none. -/
namespace Go.Proofs.Ytnodepfoahmcmaa.E
open Go.MapKept
set_option linter.unusedVariables false
set_option linter.unusedSimpArgs false

section
variable {P : Program} {w : World} {G : Nat → Nat} {φ : Nat → Option Nat} {ρ : Operand → Value} {o : Oper} {xs : List V} {heap : Heap} {n : Nat} {q : V × Heap × Nat}

theorem ok_mkMap {t : TypeId} (hop : o.op = .makeMap t none) (h : HPre w G φ xs ((opArgs o.op).map ρ) heap n) (hq : hf .mkMap xs heap n = some q) : HDoes P w G φ ρ o xs heap n q := by
  simp only [hf] at hq
  split at hq <;> first | (cases hq; done) | skip
  injection hq with hq; subst hq
  obtain ⟨φ', hφ'⟩ : ∃ φ' : Nat → Option Nat, φ' = fun b => if b = n then some w.heap.size else φ b := ⟨_, rfl⟩
  have hnew : φ' n = some w.heap.size := by rw [hφ']; simp
  have hblk : (w.alloc (.map #[] 0)).heap[w.heap.size]? = some (.map #[] 0) := heap_alloc_new w _
  refine ⟨.map (some w.heap.size), _, G, φ', ?_, HRes.new h hφ' (fun _ _ => map_in hnew (h.zero _ (Nat.le_refl _)) hblk (by simp) ⟨rfl, fun i hi => absurd hi (by simp)⟩) (fun p => ?_) (.hm _ _ _ hnew) (Tail_plain rfl _)⟩
  · have : voidB o.op = false := by rw [hop]; rfl
    rw [this]
    unfold execOp; rw [hop]
    exact exec_vm rfl
  · rw [tk_plain rfl]
    simp only [lv, hnew, bcells, List.flatMap_nil, List.zip_nil_left]
    simp [sumTk]

def outL (ok : Bool) (x : V) (b : Bool) : V := if ok then .tup [clr2 x, .bool b] else clr2 x
theorem outL_ok (ok : Bool) {x : V} {v : Value} (b : Bool) (hr : R w G φ x v) (hn : ∀ vs, x ≠ .tup vs) : R w G φ (outL ok x b) (if ok then .tuple #[v, .bool b] else v) ∧ Tail w G (outL ok x b) (if ok then .tuple #[v, .bool b] else v) ∧ ∀ p, tk (outL ok x b) (if ok then .tuple #[v, .bool b] else v) p = 0 := by
  cases ok with
  | true =>
    have e : outL true x b = clr (.tup [x, .bool b]) := rfl
    rw [e]
    refine ⟨R.clr (.tup _ [x, .bool b] #[v, .bool b] rfl fun i hi => ?_), Tail_clr _ _ _ _, fun p => tk_clr _ _ _⟩
    match i, hi with
    | 0, _ => exact hr
    | 1, _ => exact .bool _ _
  | false =>
    have e : outL false x b = clr x := by
      cases x <;> first | rfl | exact absurd rfl (hn _)
    rw [e]
    exact ⟨hr.clr, Tail_clr _ _ _ _, fun p => tk_clr _ _ _⟩

theorem zeroOk_ok {t : TypeId} {zero : V} (hz : zeroOk P t zero = true) : ∃ z, (∀ w, (zeroValue t).run P w = .ok z w) ∧ R w G φ zero z ∧ ∀ vs, zero ≠ .tup vs := by
  unfold zeroOk at hz
  split at hz <;> first | (cases hz; done) | skip
  rename_i i hi
  split at hz <;> first | (cases hz; done) | skip
  rename_i z hz'
  rw [Bool.and_eq_true] at hz
  refine ⟨z, run_zeroValue' hi hz', (okC_R hz.1).1, ?_⟩
  rintro vs rfl
  exact absurd hz.2 (by simp)

theorem ok_look {t : TypeId} {om ok' : Operand} {ok : Bool} {zero : V} {ks : List Nat} {kt et : TypeId} (hop : o.op = .lookup t om ok' ok) (hm : P.underlying t = some (.map kt et)) (hk : keyIs P kt ks = true) (hz : zeroOk P et zero = true) (h : HPre w G φ xs ((opArgs o.op).map ρ) heap n) (hq : hf (.look zero ok false ks) xs heap n = some q) : HDoes P w G φ ρ o xs heap n q := by
  have hv0 : voidB o.op = false := by rw [hop]; rfl
  obtain ⟨z, hzr, hzR, hzn⟩ := zeroOk_ok (w := w) (G := G) (φ := φ) hz
  obtain ⟨d, hd⟩ : ∃ d, P.underlying kt = some d := by
    unfold keyIs at hk
    cases hu : P.underlying kt with
    | none => rw [hu] at hk; cases hk
    | some d => exact ⟨d, rfl⟩
  have hout : ∀ (qq : Option (Nat × V)), (match qq with | some (_, v) => if ok then V.tup [clr2 v, .bool true] else clr2 v | none => if ok then V.tup [clr2 zero, .bool false] else clr2 zero) = match qq with | some (_, v) => outL ok v true | none => outL ok zero false := fun qq => by
    cases qq <;> rfl
  simp only [hf] at hq
  have h0 := h
  rw [hop] at h0
  split at hq <;> first | (cases hq; done) | skip
  · rename_i k
    injection hq with hq; subst hq
    obtain ⟨v1, v2, hv, ⟨r1, _⟩, ⟨r2, _⟩⟩ := all2_2 h0.ok
    simp only [opArgs, List.map_cons, List.map_nil, List.cons.injEq, and_true] at hv
    cases r1
    obtain ⟨a1, a2, a3⟩ := outL_ok ok false hzR hzn
    refine ⟨_, w, G, φ, ?_, HRes.same h a1 a2 a3⟩
    rw [hv0]
    unfold execOp; rw [hop]
    refine exec_v ?_
    rw [hv.1, hv.2]
    have hf0 : (Instr.findKey kt v2 ([] : List MapEntry)).run P w = .ok none w := run_findKey hd rfl
    simp only [Instr.lookup, Sem.run_bind, run_underlying hm, Result.andThen_ok, Sem.run_pure]
    simp [checkKey_ok hd hk, hf0, hzr, Result.andThen]
  · rename_i b k
    split at hq <;> first | (cases hq; done) | skip
    rename_i es hg
    obtain ⟨qq, hf, rfl⟩ := Option.map_eq_some_iff.1 hq
    obtain ⟨v1, v2, hv, ⟨r1, _⟩, ⟨r2, _⟩⟩ := all2_2 h0.ok
    simp only [opArgs, List.map_cons, List.map_nil, List.cons.injEq, and_true] at hv
    cases r1 with | hm _ _ m' hm' =>
    obtain ⟨m, en, clk, e1, e2, e3, e4, e5⟩ := map_out (h.reps _ (get_mem hg))
    rw [e1] at hm'; injection hm' with hm'; subst hm'
    rcases find_ok hd hk r2 es en.toList 0 qq e5 hf with ⟨rfl, f1⟩ | ⟨j, hj, j1, j2, rfl, f1, _, _⟩
    · obtain ⟨a1, a2, a3⟩ := outL_ok ok false hzR hzn
      refine ⟨_, w, G, φ, ?_, HRes.same h a1 a2 a3⟩
      rw [hv0]
      unfold execOp; rw [hop]
      refine exec_v ?_
      rw [hv.1, hv.2]
      simp only [Instr.lookup, Sem.run_bind, run_underlying hm, Result.andThen_ok, Sem.run_pure, Go.MapKept.run_getObj_map e3]
      simp [checkKey_ok hd hk, run_findKey hd f1, hzr, Result.andThen]
    · have hat := e5.at_ j j1 j2
      obtain ⟨a1, a2, a3⟩ := outL_ok ok true hat.2.1 hat.2.2.1
      refine ⟨_, w, G, φ, ?_, HRes.same h a1 a2 a3⟩
      rw [hv0]
      unfold execOp; rw [hop]
      refine exec_v ?_
      rw [hv.1, hv.2]
      simp only [Instr.lookup, Sem.run_bind, run_underlying hm, Result.andThen_ok, Sem.run_pure, Go.MapKept.run_getObj_map e3]
      simp [checkKey_ok hd hk, run_findKey hd f1, Result.andThen]

end
end Go.Proofs.Ytnodepfoahmcmaa.E

/- The engine, part XG: maps, written. Conditions: none. -/
namespace Go.Proofs.Ytnodepfoahmcmaa.E
open Go.MapKept
set_option linter.unusedVariables false
set_option linter.unusedSimpArgs false

section
variable {P : Program} {w : World} {G : Nat → Nat} {φ : Nat → Option Nat} {ρ : Operand → Value} {o : Oper} {xs : List V} {heap : Heap} {n : Nat} {q : V × Heap × Nat}

def mTk : List (V × V) → List MapEntry → Nat → Nat
  | e :: es, m :: en, p => sumTk (e.2.cells.zip m.val.cells.toList) p + mTk es en p
  | _, _, _ => 0
theorem mTk_eq : ∀ {es : List (V × V)} {en : List MapEntry}, MRep w G φ es en → ∀ p, sumTk ((es.flatMap fun e => e.2.cells).zip (en.flatMap fun e => e.val.cells.toList)) p = mTk es en p
  | [], [], _, p => rfl
  | [], _ :: _, h, _ => absurd h.len (by simp)
  | _ :: _, [], h, _ => absurd h.len (by simp)
  | e :: es, m :: en, h, p => by
    have h0 := h.at_ 0 (by simp) (by simp)
    simp only [List.getElem_cons_zero] at h0
    rw [List.flatMap_cons, List.flatMap_cons, List.zip_append (by rw [h0.2.2.2.1, Array.length_toList]), sumTk_append, mTk_eq h.tail p]
    rfl
theorem lv_map {b m clk : Nat} {es : List (V × V)} {en : Array MapEntry} (h : φ b = some m) (hb : w.heap[m]? = some (.map en clk)) (hm : MRep w G φ es en.toList) (p : Nat) : lv w φ p (b, .map es) = (if m = p then 1 else 0) + mTk es en.toList p := by
  simp only [lv, h, bcells, mvals, hb, mTk_eq hm p]
theorem mTk_set : ∀ {es : List (V × V)} {en : List MapEntry} {j : Nat} (e : V × V) (m : MapEntry) (h1 : j < es.length) (h2 : j < en.length) (p : Nat), mTk (es.set j e) (en.set j m) p + sumTk (es[j].2.cells.zip en[j].val.cells.toList) p = mTk es en p + sumTk (e.2.cells.zip m.val.cells.toList) p
  | [], _, _, _, _, h1, _, _ => absurd h1 (by simp)
  | _ :: _, [], _, _, _, _, h2, _ => absurd h2 (by simp)
  | x :: es, y :: en, 0, e, m, _, _, p => by
    simp only [List.set_cons_zero, mTk, List.getElem_cons_zero]; omega
  | x :: es, y :: en, j + 1, e, m, h1, h2, p => by
    have := mTk_set (j := j) e m (by simpa using h1) (by simpa using h2) p
    simp only [List.set_cons_succ, mTk, List.getElem_cons_succ]; omega
theorem mTk_snoc : ∀ {es : List (V × V)} {en : List MapEntry} (e : V × V) (m : MapEntry), en.length = es.length → ∀ p, mTk (es ++ [e]) (en ++ [m]) p = mTk es en p + sumTk (e.2.cells.zip m.val.cells.toList) p
  | [], [], e, m, _, p => by simp [mTk]
  | [], _ :: _, e, m, h, p => absurd h (by simp)
  | _ :: _, [], e, m, h, p => absurd h (by simp)
  | x :: es, y :: en, e, m, h, p => by
    have := mTk_snoc (es := es) (en := en) e m (by simpa using h) p
    simp only [List.cons_append, mTk]; omega
theorem mTk_erase : ∀ {es : List (V × V)} {en : List MapEntry} {j : Nat} (p : Nat), mTk (es.eraseIdx j) (en.eraseIdx j) p ≤ mTk es en p
  | [], [], j, p => by simp [mTk]
  | [], _ :: _, j, p => by simp [mTk]
  | _ :: _, [], j, p => by cases j <;> simp [mTk]
  | x :: es, y :: en, 0, p => by simp only [List.eraseIdx_cons_zero, mTk]; omega
  | x :: es, y :: en, j + 1, p => by
    have := mTk_erase (es := es) (en := en) (j := j) p
    simp only [List.eraseIdx_cons_succ, mTk]; omega

theorem modify_set (en : Array MapEntry) (j : Nat) (f : MapEntry → MapEntry) (h : j < en.size) : (en.modify j f).toList = en.toList.set j (f en[j]) := by
  apply List.ext_getElem
  · simp
  · intro i h1 h2
    simp only [Array.getElem_toList, Array.getElem_modify, List.getElem_set]
    split
    · rename_i e; subst e; rfl
    · rfl

/-- A map's block is laid anew. -/
theorem map_upd {b m clk clk' : Nat} {es es' : List (V × V)} {en en' : Array MapEntry} {vs : List Value} {r : V} {u : Value} (h : HPre w G φ xs vs heap n) (hg : get heap b = some (.map es)) (e1 : φ b = some m) (e2 : G m = 0) (e3 : w.heap[m]? = some (.map en clk)) (e5 : MRep w G φ es en.toList)
    (hb : ∀ e ∈ en', e.born < clk') (h5 : ∀ w', Ext w G w' G → MRep w' G φ es' en'.toList) (hv : ∀ p, mTk es' en'.toList p ≤ mTk es en.toList p + vtk xs vs p) (hr : ∀ w', R w' G φ r u) (hp : plainV r = true) :
    HRes w G φ xs vs heap n r (set heap b (.map es')) n u { w with heap := w.heap.setIfInBounds m (.map en' clk') } G φ := by
  obtain ⟨s1, s2⟩ := heap_set (o' := .map en' clk') e3
  have hM : ∀ hext : Ext w G { w with heap := w.heap.setIfInBounds m (.map en' clk') } G, MRep { w with heap := w.heap.setIfInBounds m (.map en' clk') } G φ es' en'.toList := fun hext => h5 _ hext
  have hext0 : Ext w G { w with heap := w.heap.setIfInBounds m (.map en' clk') } G := ⟨fun _ => Nat.le_refl _, fun q k hq => cell_same (s2 q fun e => by subst e; omega) k, fun q cc ee ff hc => by
    by_cases e : q = m
    · subst e; rw [e3] at hc; cases hc
    · exact ⟨cc, _, by show (w.heap.setIfInBounds m _)[q]? = _; rw [s2 q e, hc], rfl, .inl rfl⟩, by simp, rfl, rfl, rfl⟩
  refine HRes.upd h hg e1 e2 (fun p hp => s2 p hp) (by simp) (fun cs el' fr' hc => by rw [e3] at hc; cases hc) rfl rfl rfl (fun hext => map_in e1 e2 s1 hb (hM hext)) (fun p => ?_) (hr _) (Tail_plain hp _)
  rw [lv_map e1 s1 (hM hext0), lv_map e1 e3 e5, tk_plain hp]
  have := hv p
  omega

theorem MRep.mono {w' : World} {es : List (V × V)} {en : List MapEntry} (h : MRep w G φ es en) (e : Ext w G w' G) : MRep w' G φ es en :=
  ⟨h.len, fun i h1 h2 => by
    obtain ⟨a, b, c, d, f⟩ := h.at_ i h1 h2
    exact ⟨a.mono e fun _ _ h => h, b.mono e fun _ _ h => h, c, d, f.mono e fun _ _ => rfl⟩⟩

theorem ok_upd {t : TypeId} {om ok' ov : Operand} {ks : List Nat} {kt et : TypeId} (hop : o.op = .mapUpdate t om ok' ov) (hm : P.underlying t = some (.map kt et)) (hk : keyIs P kt ks = true) (h : HPre w G φ xs ((opArgs o.op).map ρ) heap n) (hq : hf (.upd false ks) xs heap n = some q) : HDoes P w G φ ρ o xs heap n q := by
  have hv0 : voidB o.op = true := by rw [hop]; rfl
  obtain ⟨d, hd⟩ : ∃ d, P.underlying kt = some d := by
    unfold keyIs at hk
    cases hu : P.underlying kt with
    | none => rw [hu] at hk; cases hk
    | some d => exact ⟨d, rfl⟩
  simp only [hf] at hq
  have h0 := h
  rw [hop] at h0
  split at hq <;> first | (cases hq; done) | skip
  rename_i b k v
  split at hq <;> first | (cases hq; done) | skip
  rename_i es hg
  split at hq <;> first | (cases hq; done) | skip
  rename_i hc
  obtain ⟨hnk, hsv⟩ := hc
  obtain ⟨qq, hf, rfl⟩ := Option.map_eq_some_iff.1 hq
  obtain ⟨v1, v2, v3, hv, ⟨r1, _⟩, ⟨r2, _⟩, ⟨r3, t3⟩⟩ := all2_3 h0.ok
  simp only [opArgs, List.map_cons, List.map_nil, List.cons.injEq, and_true] at hv
  cases r1 with | hm _ _ m' hm' =>
  obtain ⟨m, en, clk, e1, e2, e3, e4, e5⟩ := map_out (h.reps _ (get_mem hg))
  rw [e1] at hm'; injection hm' with hm'; subst hm'
  obtain ⟨c1, c2, c3⟩ := cells_tails r3 hsv t3
  have hvt : ∀ vs, v ≠ .tup vs := by rintro vs rfl; simp [solid] at hsv
  have hvtk : ∀ p, sumTk (v.cells.zip v3.cells.toList) p ≤ vtk [.hm b, k, v] ((opArgs o.op).map ρ) p := fun p => by
    rw [← c3 p, hop]
    simp [vtk, opArgs, hv.2.2]
    omega
  have hkR : R w G (fun _ => none) k v2 := r2.noH2 hnk
  rcases find_ok hd hk r2 es en.toList 0 qq e5 hf with ⟨rfl, f1⟩ | ⟨j, hj, j1, j2, rfl, f1, f2, f3⟩
  · -- a new entry
    refine ⟨undef, _, G, φ, ?_, map_upd (clk' := clk + 1) (en' := en.push { key := v2, val := v3, born := clk }) (r := .junk) (u := undef) h hg e1 e2 e3 e5 (fun e he => ?_) (fun w' hext => ?_) (fun p => ?_) (fun w' => .junk _ _) rfl⟩
    · rw [hv0]
      unfold execOp; rw [hop]
      simp only [hv.1, hv.2.1, hv.2.2, Instr.mapUpdate, Sem.run_bind, run_underlying hm, Result.andThen_ok, Go.MapKept.run_getObj_map e3, checkKey_ok hd hk, run_findKey hd f1, Go.MapKept.run_setObj_map _ e3, Sem.run_pure]
      rfl
    · rcases Array.mem_push.1 he with he | rfl
      · have := e4 e he; omega
      · exact Nat.lt_succ_self _
    · have e5' := e5.mono hext
      refine ⟨by simp [e5.len], fun i h1 h2 => ?_⟩
      have hle := e5.len
      simp only [Array.toList_push] at h2 ⊢
      by_cases hi : i < es.length
      · rw [List.getElem_append_left hi, List.getElem_append_left (by omega)]
        exact e5'.at_ i hi (by omega)
      · have : i = es.length := by simp at h1; omega
        subst this
        rw [List.getElem_append_right (Nat.le_refl _), List.getElem_append_right (by omega)]
        simp only [Nat.sub_self, List.getElem_cons_zero, hle]
        have hk2 : R w' G (fun _ => none) (clr2 k) v2 := (hkR.mono hext fun _ _ h => h).clr2
        exact ⟨hk2, r3.mono hext fun _ _ h => h, hvt, c1.symm, t3.mono hext fun _ _ => rfl⟩
    · rw [Array.toList_push, mTk_snoc _ _ e5.len]
      have := hvtk p
      simp only
      omega
  · -- the entry is laid over
    have hjs : j < en.size := by simpa using j2
    have hget : en[j]? = some en[j] := Array.getElem?_eq_getElem hjs
    have f3' : Instr.sameBits 10000 en[j].key v2 = true := by simpa using f3
    simp only [Nat.zero_add]
    refine ⟨undef, _, G, φ, ?_, map_upd (clk' := clk) (en' := en.modify j fun e => { e with key := v2, val := v3 }) (r := .junk) (u := undef) h hg e1 e2 e3 e5 (fun e he => ?_) (fun w' hext => ?_) (fun p => ?_) (fun w' => .junk _ _) rfl⟩
    · rw [hv0]
      unfold execOp; rw [hop]
      have f1' : Instr.findNow d v2 en.toList 0 = some (some (j, en.toList[j].val)) := by rw [f1]; simp
      simp only [hv.1, hv.2.1, hv.2.2, Instr.mapUpdate, Sem.run_bind, run_underlying hm, Result.andThen_ok, Go.MapKept.run_getObj_map e3, checkKey_ok hd hk, run_findKey hd f1', hget, Option.map_some, Option.getD_some, Instr.keyThatStays, f3', if_true, Go.MapKept.run_setObj_map _ e3, Sem.run_pure]
    · have he' : e ∈ (en.modify j fun e => { e with key := v2, val := v3 }).toList := Array.mem_toList_iff.2 he
      rw [modify_set _ _ _ hjs] at he'
      rcases List.mem_or_eq_of_mem_set he' with he' | rfl
      · exact e4 e (by simpa using he')
      · exact e4 en[j] (Array.getElem_mem hjs)
    · have e5' := e5.mono hext
      rw [modify_set _ _ _ hjs]
      refine ⟨by simpa using e5.len, fun i h1 h2 => ?_⟩
      rw [List.getElem_set, List.getElem_set]
      by_cases hi : j = i
      · subst hi
        simp only [if_true]
        exact ⟨hkR.mono hext fun _ _ h => h, r3.mono hext fun _ _ h => h, hvt, c1.symm, t3.mono hext fun _ _ => rfl⟩
      · rw [if_neg hi, if_neg hi]
        exact e5'.at_ i (by simpa using h1) (by simpa using h2)
    · rw [modify_set _ _ _ hjs]
      have := mTk_set (k, v) ({ en[j] with key := v2, val := v3 } : MapEntry) j1 j2 p
      have := hvtk p
      simp only at *
      omega

end
end Go.Proofs.Ytnodepfoahmcmaa.E

/- The engine, part XH: a map's length; deleting; freezing rows. Conditions: none. -/
namespace Go.Proofs.Ytnodepfoahmcmaa.E
open Go.MapKept
set_option linter.unusedVariables false
set_option linter.unusedSimpArgs false

section
variable {P : Program} {w : World} {G : Nat → Nat} {φ : Nat → Option Nat} {ρ : Operand → Value} {o : Oper} {xs : List V} {heap : Heap} {n : Nat} {q : V × Heap × Nat}

theorem ok_lenM {args : Array Operand} {t kt et : TypeId} (hop : o.op = .call { callee := .builtin .len, args, argTypes := #[t] }) (hm : P.underlying t = some (.map kt et)) (h : HPre w G φ xs ((opArgs o.op).map ρ) heap n) (hq : hf .lenM xs heap n = some q) : HDoes P w G φ ρ o xs heap n q := by
  have hs := exec_builtin (ρ := ρ) hop
  have hv0 : voidB o.op = false := by rw [hop]; rfl
  have h0 := h
  rw [hop] at h0
  simp only [hf] at hq
  split at hq <;> first | (cases hq; done) | skip
  · injection hq with hq; subst hq
    obtain ⟨v, hv, hr, _⟩ := all2_1 h0.ok
    simp only [opArgs] at hv
    rw [args_1 hv] at hs
    cases hr
    refine ⟨goInt 0, w, G, φ, ?_, HRes.same h (.int _ _ _) (Tail_plain rfl _) fun b => tk_plain rfl _ b⟩
    rw [hv0, hs]
    simp [builtin, Builtin.len_, run_underlying hm, Result.andThen, goInt]
  · rename_i b
    split at hq <;> first | (cases hq; done) | skip
    rename_i es hg
    injection hq with hq; subst hq
    obtain ⟨v, hv, hr, _⟩ := all2_1 h0.ok
    simp only [opArgs] at hv
    rw [args_1 hv] at hs
    cases hr with | hm _ _ m' hm' =>
    obtain ⟨m, en, clk, e1, e2, e3, e4, e5⟩ := map_out (h.reps _ (get_mem hg))
    rw [e1] at hm'; injection hm' with hm'; subst hm'
    have hl : en.size = es.length := by simpa using e5.len
    refine ⟨goInt es.length, w, G, φ, ?_, HRes.same h (.int _ _ _) (Tail_plain rfl _) fun b => tk_plain rfl _ b⟩
    rw [hv0, hs]
    simp [builtin, Builtin.len_, run_underlying hm, Result.andThen, goInt, Go.MapKept.run_getObj_map e3, hl]

theorem get_del_other {l : Heap} {b k : Nat} {x : Blk} (hne : k ≠ b) (h : get l k = some x) : get (del l b) k = some x := by
  induction l with
  | nil => cases h
  | cons a l ih =>
    obtain ⟨a1, a2⟩ := a
    simp only [del]
    split
    · rename_i eq; subst eq; rw [get, if_neg hne] at h; exact h
    · rw [get] at h ⊢
      split
      · rename_i eq; rw [if_pos eq] at h; exact h
      · rename_i eq; rw [if_neg eq] at h; exact ih h
/-- The other blocks have nothing of block m. -/
theorem other_ne {vs : List Value} {b m : Nat} {blk : Blk} (h : HPre w G φ xs vs heap n) (hg : get heap b = some blk) (hm : φ b = some m) : ∀ p ∈ heap, p.1 ≠ b → ∀ c, lv w φ c p ≠ 0 → c ≠ m := fun p hp hne c hc e => by
  subst e
  have h1 : ((del heap b).map (lv w φ c)).sum + lv w φ c (b, blk) = cntH w φ heap c := sum_del (lv w φ c) hg
  have h2 := lv_self (w := w) (blk := blk) hm
  have h3 : p ∈ del heap b := get_mem (get_del_other hne (get_of_mem h.sorted (show (p.1, p.2) ∈ heap from hp)))
  have h4 := le_sum (f := lv w φ c) h3
  have h5 := h.cnt c
  omega

theorem ok_frz {x : Operand} {sz : Nat} (hop : o.op = .move x ∨ o.op = .assign x) (h : HPre w G φ xs ((opArgs o.op).map ρ) heap n) (hq : hf (.frz sz) xs heap n = some q) : HDoes P w G φ ρ o xs heap n q := by
  have hv0 : voidB o.op = false := by rcases hop with hop | hop <;> rw [hop] <;> rfl
  have hop1 : opArgs o.op = [x] := by rcases hop with hop | hop <;> rw [hop] <;> rfl
  have hex : ∀ w, (execOp ρ o).run P w = .ok (.value (ρ x)) w := fun w => by
    unfold execOp
    rcases hop with hop | hop <;> rw [hop] <;> rfl
  simp only [hf] at hq
  split at hq <;> first | (cases hq; done) | skip
  rename_i b z off m
  have h0 := h.ok
  rw [hop1] at h0
  obtain ⟨v, hv, hr, _⟩ := all2_1 h0
  simp only [List.map_cons, List.map_nil, List.cons.injEq, and_true] at hv
  by_cases hz : z = 0
  · rw [if_pos hz] at hq
    split at hq <;> first | (cases hq; done) | skip
    injection hq with hq; subst hq
    cases hr with
    | hs _ _ _ _ _ _ _ _ _ _ _ _ _ _ _ _ hz' => omega
    | hsNil => exact ⟨.slice none 0 0, w, G, φ, by rw [hv0, hex, hv]; rfl, HRes.same h (.slNil _ _ _ _ _) (fun p hp => by rw [leaves_sl, List.mem_singleton] at hp; subst hp; trivial) fun b => by rw [tk_sl]; rfl⟩
  · rw [if_neg hz] at hq
    split at hq <;> first | (cases hq; done) | skip
    rename_i hzs
    subst hzs
    split at hq <;> first | (cases hq; done) | skip
    rename_i sz' l hg
    split at hq <;> first | (cases hq; done) | skip
    rename_i hc
    obtain ⟨rfl, hle, hall⟩ := hc
    injection hq with hq; subst hq
    obtain ⟨k, cells, el, fr, e1, e2, e3, e4, e5, e6, e7, e8⟩ := rows_out (h.reps _ (get_mem hg))
    cases hr with
    | hsNil => exact absurd rfl hz
    | hs _ _ _ _ _ cap k' oo cs' el' fr' hφ hl ho hb hs' hz' =>
      have hkk : k' = k := by rw [e1] at hφ; injection hφ with hφ; exact hφ.symm
      subst hkk
      obtain ⟨G', hG'⟩ : ∃ G' : Nat → Nat, G' = fun p => if p = k' then (l.flatMap V.cells).length else G p := ⟨_, rfl⟩
      have hGk : G' k' = (l.flatMap V.cells).length := by rw [hG']; simp
      have hGo : ∀ p, p ≠ k' → G' p = G p := fun p hp => by rw [hG']; simp [hp]
      have hext : Ext w G w G' := ⟨fun p => by
        by_cases e : p = k'
        · subst e; omega
        · rw [hGo p e]; exact Nat.le_refl _, fun _ _ _ => rfl, fun _ cs _ fr h => ⟨cs, fr, h, rfl, .inl rfl⟩, Nat.le_refl _, rfl, rfl, rfl⟩
      have hlen := (flatMap_get l e7).1
      have hget := (flatMap_get l e7).2
      have hklt : k' < w.heap.size := (Array.getElem?_eq_some_iff.1 e3).1
      -- the value
      have hrel : R w G' φ (.sl false sz' (((l.drop off).take m).map clr2)) (.slice (some ⟨k', oo, none⟩) m cap) := by
        by_cases hm0 : m = 0
        · subst hm0
          simp only [List.take_zero, List.map_nil]
          exact .slNil _ _ _ _ _
        · have hoo : oo = off * sz' := ho (by omega)
          subst hoo
          have hll : (((l.drop off).take m).map clr2).length = m := by simp; omega
          have hcell : ∀ i j, i < m → j < sz' → (off + i) * sz' + j < (l.flatMap V.cells).length := fun i j hi hj => by
            rw [hlen]
            have : (off + i + 1) * sz' ≤ l.length * sz' := Nat.mul_le_mul_right _ (by omega)
            rw [Nat.succ_mul] at this
            omega
          have hgi : ∀ i (hi : i < (((l.drop off).take m).map clr2).length), (((l.drop off).take m).map clr2)[i] = clr2 (l[off + i]'(by omega)) := fun i hi => by simp
          have hmain := R.sl (w := w) (G := G') φ false sz' (((l.drop off).take m).map clr2) k' (off * sz') cap (fun i j => cells.getD ((off + i) * sz' + j) undef) (by omega) (fun i j hi hj => ?_) (fun i j hi hj => ?_) (fun i hi => ?_) (fun i j hi hj => ?_) ?_
          · rw [hll] at hmain; exact hmain
          · have := hcell i j (by omega) hj
            rw [show off * sz' + i * sz' + j = (off + i) * sz' + j by rw [Nat.add_mul], cell_of_row w _ _ cells el fr e3, Array.getElem?_eq_getElem (by omega)]
            have h9 : (off + i) * sz' + j < cells.size := by omega
            simp [Array.getD, h9]
          · have := hcell i j (by omega) hj
            have h9 : (off + i) * sz' + j < cells.size := by omega
            exact e6 _ (by simp [Array.getD, h9])
          · rw [hgi i hi, cells_clr2, List.length_map]
            exact e7 _ (List.getElem_mem _)
          · have hzj : j < sz' := by rw [hgi i hi, cells_clr2, List.length_map, e7 _ (List.getElem_mem _)] at hj; exact hj
            have hlt := hcell i j (by omega) hzj
            have hj2 : j < (l[off + i]'(by omega)).cells.length := by rw [e7 _ (List.getElem_mem _)]; exact hzj
            have h9 := (e8 _ hlt).1
            rw [hget (off + i) j (by omega) hj2 hlt] at h9
            have hn2 := List.all_eq_true.1 hall (l[off + i]'(by omega)) (List.getElem_mem _)
            have hn1 : noH1 ((l[off + i]'(by omega)).cells[j]) = true := by
              generalize l[off + i]'(by omega) = y at hn2 hj2
              cases y with
              | agg cs =>
                simp only [noH2, List.all_eq_true] at hn2
                exact hn2 _ (List.getElem_mem _)
              | _ =>
                simp only [V.cells, List.length_singleton] at hj2
                obtain rfl : j = 0 := by omega
                exact hn2
            have e9 : ((((l.drop off).take m).map clr2)[i]).cells[j] = clr1 ((l[off + i]'(by omega)).cells[j]) := by
              simp only [hgi i hi, cells_clr2, List.getElem_map]
            rw [e9]
            exact ((h9.mono hext fun _ _ h => h).noH1 hn1).clr1
          · rw [hll, hGk, hlen, ← Nat.add_mul]
            exact Nat.mul_le_mul_right _ hle
      have hsub := del_sublist heap b
      have hcs : ∀ p, cntH w φ (del heap b) p ≤ cntH w φ heap p := fun p => sum_sublist _ hsub
      refine ⟨_, w, G', φ, by rw [hv0, hex, hv]; rfl, hrel, fun p hp => by rw [leaves_sl, List.mem_singleton] at hp; subst hp; trivial, fun p hp => ?_, h.sorted.sublist hsub, fun p => ?_, h.ctr, Nat.le_refl _, fun p hp => by rw [hGo p (by omega)]; exact h.zero p hp, hext, fun _ _ h => h, fun p hp h0 => ⟨rfl, ?_, ?_⟩⟩
      · have hp' := hsub.subset hp
        have hne : p.1 ≠ b := fun e => by
          have := get_of_mem (h.sorted.sublist hsub) (show (p.1, p.2) ∈ del heap b from hp)
          rw [e, get_del h.sorted b] at this
          cases this
        exact (h.reps p hp').mono hext (fun _ _ h => h) fun c hc => ⟨rfl, hGo c (other_ne h hg e1 p hp' hne c hc)⟩
      · rw [tk_sl]
        have := hcs p
        have := h.cnt p
        simp only [tk1]
        omega
      · refine hGo p fun e => ?_
        subst e
        have a1 : lv w φ p (b, .rows sz' l) ≤ cntH w φ heap p := lv_le hg p
        have a2 : 1 ≤ lv w φ p (b, .rows sz' l) := lv_self e1
        omega
      · rw [tk_sl]
        have := hcs p
        simp only [tk1]
        omega

end
end Go.Proofs.Ytnodepfoahmcmaa.E

/- The engine, part XI: rows made that may be written. Conditions: none. -/
namespace Go.Proofs.Ytnodepfoahmcmaa.E
set_option linter.unusedVariables false
set_option linter.unusedSimpArgs false

section
variable {P : Program} {w : World} {G : Nat → Nat} {φ : Nat → Option Nat} {ρ : Operand → Value} {o : Oper} {xs : List V} {heap : Heap} {n : Nat} {q : V × Heap × Nat}

theorem run_mkslice {t e : TypeId} {i : TypeInfo} {z : Value} {kl kc : IntKind} {m c : Int} (hu : P.underlying t = some (.slice e)) (hi : P.info? e = some i) (hz : i.zero = some z) (b1 : 0 ≤ m) (b2 : m ≤ c) (b3 : c.toNat * i.bytes ≤ LIM) (b4 : c ≤ LIM) (w : World) :
    (Instr.makeSlice t (.int kl m) (.int kc c)).run P w = .ok (.slice (some ⟨w.heap.size, 0, none⟩) m.toNat c.toNat) (w.alloc (.cells ((Array.range (c.toNat * i.size)).map (z.cells[· % z.cells.size]!)) e)) := by
  have hlim : c ≤ 17592186044416 := by unfold LIM at b4; exact b4
  have hlim2 : c.toNat * i.bytes ≤ 17592186044416 := b3
  have hwl : IntKind.i64.wrap m = m := i64_wrap ⟨by omega, by omega⟩
  have hwc : IntKind.i64.wrap c = c := i64_wrap ⟨by omega, by omega⟩
  have hci : (i.bytes : Int) * c = ((c.toNat * i.bytes : Nat) : Int) := by
    rw [Int.natCast_mul, Int.toNat_of_nonneg (by omega), Int.mul_comm]
  obtain ⟨row, hrow⟩ : ∃ row : Array Value, row = (Array.range (c.toNat * i.size)).map (z.cells[· % z.cells.size]!) := ⟨_, rfl⟩
  rw [← hrow]
  have e1 : ∀ zr : Array Value, (c.toNat * i.size = 0 ∨ zr = z.cells) → (Array.range (c.toNat * i.size)).map (zr[· % zr.size]!) = row := by
    intro zr hzr
    rw [hrow]
    rcases hzr with h0 | rfl
    · rw [h0]; simp
    · rfl
  have hroom : (askRoom (c.toNat * i.bytes)).run P w = .ok () w := by
    unfold askRoom
    rw [if_neg (by unfold roomBytes; omega)]
    rfl
  have hsz' : szIs P e i.size = true := by unfold szIs; rw [hi]; simp
  unfold Instr.makeSlice
  simp only [Sem.run_bind, run_underlying hu, Result.andThen_ok, asInt, asIntOf, Sem.run_pure, run_typeInfo hi, hwl, hwc]
  have hci2 : (i.bytes : Int) * c ≤ 17592186044416 := by rw [hci]; omega
  rw [if_neg (by simp; omega)]
  simp only [Sem.run_bind, hroom, Result.andThen_ok, run_szIs hsz']
  by_cases h0 : c.toNat * i.size = 0
  · rw [if_pos h0]
    simp only [Sem.run_bind, Sem.run_pure, Result.andThen_ok]
    rw [e1 _ (.inl h0), run_newRow, Result.andThen_ok]
  · rw [if_neg h0]
    simp only [Sem.run_bind, Sem.run_pure, Result.andThen_ok, run_zeroValue' hi hz]
    rw [e1 _ (.inr rfl), run_newRow, Result.andThen_ok]

theorem rep_flat {x : V} {sz : Nat} (hx : x.cells.length = sz) (hs : 0 < sz) (k : Nat) : ((List.replicate k x).flatMap V.cells).length = k * sz ∧ ∀ p (h : p < ((List.replicate k x).flatMap V.cells).length), ((List.replicate k x).flatMap V.cells)[p] = x.cells[p % sz]'(by rw [hx]; exact Nat.mod_lt _ hs) := by
  have hz : ∀ y ∈ List.replicate k x, y.cells.length = sz := fun y hy => by rw [(List.mem_replicate.1 hy).2]; exact hx
  obtain ⟨h1, h2⟩ := flatMap_get (List.replicate k x) hz
  rw [List.length_replicate] at h1
  refine ⟨h1, fun p hp => ?_⟩
  have hd : p / sz < k := by rw [h1] at hp; exact (Nat.div_lt_iff_lt_mul hs).2 hp
  have hm := Nat.mod_lt p hs
  have he : p / sz * sz + p % sz = p := by rw [Nat.mul_comm]; exact Nat.div_add_mod p sz
  have := h2 (p / sz) (p % sz) (by simpa using hd) (by rw [List.getElem_replicate, hx]; exact hm) (by rw [he]; exact hp)
  simp only [List.getElem_replicate, he] at this
  exact this

theorem ok_mkH {t : TypeId} {ol oc : Operand} {sz bytes : Nat} {zero : V} (hop : o.op = .makeSlice t ol oc) (hel : elemIs P t sz bytes = true) (hze : (match P.underlying t with | some (.slice e) => (match P.info? e with | some i => (match i.zero with | some z => okCL z.cells.toList zero.cells | none => false) | none => false) | _ => false) = true)
    (h : HPre w G φ xs ((opArgs o.op).map ρ) heap n) (hq : hf (.mkH sz bytes zero) xs heap n = some q) : HDoes P w G φ ρ o xs heap n q := by
  have hv0 : voidB o.op = false := by rw [hop]; rfl
  obtain ⟨e, i, z, hu, hi, rfl, rfl, hsz0, hz, hzs⟩ := elemIs_spec hel
  rw [hu] at hze
  simp only [hi, hz] at hze
  simp only [hf] at hq
  split at hq <;> first | (cases hq; done) | skip
  rename_i kl m kc c
  split at hq <;> first | (cases hq; done) | skip
  rename_i hb
  obtain ⟨b1, b2, b3, b4, b5, b7⟩ := hb
  injection hq with hq; subst hq
  have h0 := h.ok
  rw [hop] at h0
  obtain ⟨v1, v2, hv, ⟨r1, _⟩, ⟨r2, _⟩⟩ := all2_2 h0
  simp only [opArgs, List.map_cons, List.map_nil, List.cons.injEq, and_true] at hv
  cases r1; cases r2
  have hz0 : PCells (R0 w G φ) zero.cells z.cells := okCL_cells hze
  have hrun := run_mkslice (kl := kl) (kc := kc) hu hi hz b1 b2 b3 b4 w
  generalize hrow : (Array.range (c.toNat * i.size)).map (z.cells[· % z.cells.size]!) = row at hrun
  have hrs : row.size = c.toNat * i.size := by rw [← hrow]; simp
  have hrg : ∀ p, p < row.size → row.getD p undef = z.cells.getD (p % i.size) undef := fun p hp => by
    have hd : p / i.size < c.toNat := by rw [hrs] at hp; exact (Nat.div_lt_iff_lt_mul hsz0).2 hp
    have := zeros_get z.cells c.toNat i.size hzs (p / i.size) (p % i.size) hd (Nat.mod_lt _ hsz0)
    rw [hrow, Nat.mul_comm, Nat.div_add_mod] at this
    exact this
  obtain ⟨φ', hφ'⟩ : ∃ φ' : Nat → Option Nat, φ' = fun b => if b = n then some w.heap.size else φ b := ⟨_, rfl⟩
  have hnew : φ' n = some w.heap.size := by rw [hφ']; simp
  have hblk : (w.alloc (.cells row e)).heap[w.heap.size]? = some (.cells row e) := heap_alloc_new w _
  have hcl : (clr2 zero).cells = zero.cells.map clr1 := cells_clr2 zero
  have hcll : (clr2 zero).cells.length = i.size := by rw [hcl, List.length_map]; exact b5
  obtain ⟨f1, f2⟩ := rep_flat hcll hsz0 m.toNat
  have hmc : m.toNat * i.size ≤ c.toNat * i.size := Nat.mul_le_mul_right _ (by omega)
  have hcellR : ∀ j (hj : j < i.size), R w G φ ((clr2 zero).cells[j]'(by omega)) (z.cells.getD j undef) ∧ okCell ((clr2 zero).cells[j]'(by omega)) = true ∧ (z.cells.getD j undef).oneCell' = true ∧ ∃ y, (clr2 zero).cells[j]'(by omega) = clr1 y := fun j hj => by
    have h1 := (hz0.2 j (by omega)).1
    have h2 := List.all_eq_true.1 b7 (zero.cells[j]'(by omega)) (List.getElem_mem _)
    simp only [hcl, List.getElem_map]
    refine ⟨h1.clr1, ?_, oneCell_ok h1 h2, _, rfl⟩
    generalize zero.cells[j]'(by omega) = y at h2
    cases y <;> first | exact h2 | rfl
  have hone : ∀ u ∈ row, u.oneCell' = true := fun u hu' => by
    obtain ⟨p, hp, rfl⟩ := Array.mem_iff_getElem.1 hu'
    have := hrg p hp
    have e9 : row.getD p undef = row[p] := by simp [Array.getD, hp]
    rw [← e9, this]
    exact (hcellR _ (Nat.mod_lt _ hsz0)).2.2.1
  refine ⟨.slice (some ⟨w.heap.size, 0, none⟩) m.toNat c.toNat, _, G, φ', ?_, HRes.new h hφ' (fun hext hmono => rows_in hnew (h.zero _ (Nat.le_refl _)) hblk (fun p _ hp => by omega) (by rw [f1, hrs]; exact hmc) hone (fun x hx => by rw [(List.mem_replicate.1 hx).2]; exact hcll) (fun p hp => ?_)) (fun p => ?_) ?_ (Tail_plain rfl _)⟩
  · rw [hv0]
    unfold execOp; rw [hop]
    refine exec_vm ?_
    rw [hv.1, hv.2]
    exact hrun
  · have hp2 : p < row.size := by rw [f1] at hp; omega
    obtain ⟨g1, _, _, y, g4⟩ := hcellR (p % i.size) (Nat.mod_lt _ hsz0)
    rw [f2 p hp, hrg p hp2]
    refine ⟨g1.mono hext hmono, ?_⟩
    rw [g4]
    exact Tail1_clr1 _ _ _ _
  · rw [lv_rows hnew hblk, tk_plain rfl]
    have : sumTk (((List.replicate m.toNat (clr2 zero)).flatMap V.cells).zip row.toList) p = 0 := sumTk_zero fun pr hpr => by
      obtain ⟨a, b⟩ := pr
      have ha := (List.of_mem_zip hpr).1
      obtain ⟨j, hj, rfl⟩ := List.mem_iff_getElem.1 ha
      obtain ⟨_, _, _, y, g4⟩ := hcellR (j % i.size) (Nat.mod_lt _ hsz0)
      simp only [f2 j hj, g4]
      exact tk1_clr1 _ _ _
    omega
  · exact .hs _ n i.size 0 m.toNat c.toNat w.heap.size 0 row e (0, 0) hnew (by omega) (fun _ => by simp) hblk (by rw [hrs]; omega) hsz0

end
end Go.Proofs.Ytnodepfoahmcmaa.E

/- The engine, part XJ: a block under a new number. Conditions: none. -/
namespace Go.Proofs.Ytnodepfoahmcmaa.E
set_option linter.unusedVariables false
set_option linter.unusedSimpArgs false

section
variable {P : Program} {w : World} {G : Nat → Nat} {φ : Nat → Option Nat} {ρ : Operand → Value} {o : Oper} {xs : List V} {vs : List Value} {heap : Heap} {n : Nat} {r : V} {u : Value}

/-- A block goes, another comes: in its place or elsewhere. -/
theorem HRes.repl {b m m' : Nat} {blk blk' : Blk} {φ' : Nat → Option Nat} {w' : World} (h : HPre w G φ xs vs heap n) (hg : get heap b = some blk) (hm : φ b = some m) (hG : G m = 0) (hφ' : φ' = fun b => if b = n then some m' else φ b)
    (hfar : ∀ c, c < w.heap.size → c ≠ m → w'.heap[c]? = w.heap[c]?) (hsize : w.heap.size ≤ w'.heap.size) (hkeep : ∀ (cs : Array Value) (el : TypeId) (fr : Nat × Nat), w.heap[m]? = some (.cells cs el fr) → ∃ cs' : Array Value, w'.heap[m]? = some (.cells cs' el fr) ∧ cs'.size = cs.size)
    (hos : w'.os = w.os) (htape : w'.tape = w.tape) (hout : w'.output = w.output) (hrep : Ext w G w' G → (∀ b m, φ b = some m → φ' b = some m) → BlkRep w' G φ' n blk')
    (hlv : ∀ q, lv w' φ' q (n, blk') + tk r u q ≤ (if w.heap.size ≤ q then 1 else lv w φ q (b, blk) + vtk xs vs q)) (hr : R w' G φ' r u) (ht : Tail w' G r u) : HRes w G φ xs vs heap n r (set (del heap b) n blk') (n + 1) u w' G φ' := by
  have hmlt : m < w.heap.size := by
    obtain ⟨k, hk, hlt, _⟩ := (h.reps _ (get_mem hg)).lt
    have : k = m := by
      have hk' : φ b = some k := hk
      rw [hm] at hk'; injection hk' with hk'; exact hk'.symm
    omega
  have hmono : ∀ b m, φ b = some m → φ' b = some m := fun b m hb => by
    rw [hφ']
    have := h.ctr b m hb
    simp only
    rw [if_neg (by omega), hb]
  have hext : Ext w G w' G := ⟨fun _ => Nat.le_refl _, fun q k hq => by
    have hql : q < w.heap.size := by
      rcases Nat.lt_or_ge q w.heap.size with hl | hl
      · exact hl
      · rw [h.zero q hl] at hq; omega
    exact cell_same (hfar q hql fun e => by subst e; omega) k, fun q cc ee ff hc => by
    have hql : q < w.heap.size := (Array.getElem?_eq_some_iff.1 hc).1
    by_cases e : q = m
    · subst e
      obtain ⟨c, h1, h2⟩ := hkeep _ _ _ hc
      exact ⟨c, _, h1, h2, .inl rfl⟩
    · exact ⟨cc, _, by rw [hfar q hql e, hc], rfl, .inl rfl⟩, hsize, hos, htape, hout⟩
  have hs3 : Sorted (del heap b) := h.sorted.sublist (del_sublist _ _)
  have hneb : ∀ p ∈ del heap b, p.1 ≠ b := fun p hp e => by
    have := get_of_mem hs3 (show (p.1, p.2) ∈ del heap b from hp)
    rw [e, get_del h.sorted b] at this
    cases this
  have hin : ∀ p ∈ del heap b, p ∈ heap := fun p hp => (del_sublist heap b).subset hp
  have hlt : ∀ p ∈ heap, ∀ c, lv w φ c p ≠ 0 → c < w.heap.size := fun p hp c hc => by
    rcases Nat.lt_or_ge c w.heap.size with hl | hl
    · exact hl
    · have h1 := vtk_big h hl
      have h2 : lv w φ c (p.1, p.2) ≤ (heap.map (lv w φ c)).sum := le_sum (f := lv w φ c) hp
      unfold cntH at h1
      have : lv w φ c (p.1, p.2) ≠ 0 := hc
      omega
  have hkeepO : ∀ p ∈ del heap b, ∀ c, lv w φ c p ≠ 0 → w'.heap[c]? = w.heap[c]? := fun p hp c hc => hfar c (hlt p (hin p hp) c hc) (other_ne h hg hm p (hin p hp) (hneb p hp) c hc)
  have hlvs : ∀ p ∈ del heap b, ∀ q, lv w' φ' q p = lv w φ q p := fun p hp q => by
    obtain ⟨k, hk, _⟩ := (h.reps p (hin p hp)).lt
    refine lv_congr hk (hmono _ _ hk) (hkeepO p hp k ?_) q
    have := lv_self (w := w) (blk := p.2) hk
    show lv w φ k (p.1, p.2) ≠ 0
    omega
  have hgn : get (del heap b) n = none := by
    cases hgn : get (del heap b) n with
    | none => rfl
    | some x =>
      obtain ⟨k, hk, _⟩ := (h.reps _ (hin _ (get_mem hgn))).lt
      have := h.ctr _ _ hk
      simp only at this
      omega
  have hcnt : ∀ q, cntH w' φ' (set (del heap b) n blk') q + lv w φ q (b, blk) = cntH w φ heap q + lv w' φ' q (n, blk') := fun q => by
    have h1 := sum_set (lv w' φ' q) hs3 n blk'
    rw [hgn] at h1
    simp only at h1
    have h2 : ((del heap b).map (lv w' φ' q)).sum = ((del heap b).map (lv w φ q)).sum := sum_congr fun p hp => hlvs p hp q
    have h3 : ((del heap b).map (lv w φ q)).sum + lv w φ q (b, blk) = cntH w φ heap q := sum_del (lv w φ q) hg
    unfold cntH at *
    omega
  have hself : ∀ q, w.heap.size ≤ q → lv w φ q (b, blk) = 0 := fun q hq => by
    rcases Nat.eq_zero_or_pos (lv w φ q (b, blk)) with e | e
    · exact e
    · have := hlt _ (get_mem hg) q (Nat.pos_iff_ne_zero.1 e); omega
  refine ⟨hr, ht, fun p hp => ?_, set_sorted hs3 _ _, fun q => ?_, fun b m hb => ?_, Nat.le_succ _, fun q hq => h.zero q (by omega), hext, hmono, fun q hq h0 => ⟨hfar q hq fun e => ?_, rfl, ?_⟩⟩
  · rcases mem_set hs3 hp with rfl | ⟨hp, _⟩
    · exact hrep hext hmono
    · exact (h.reps p (hin p hp)).mono hext hmono fun c hc => ⟨hkeepO p hp c hc, rfl⟩
  · have h1 := hcnt q
    have h2 := hlv q
    have h3 := h.cnt q
    split at h2
    · rename_i hq
      have := vtk_big h hq
      have := hself q hq
      omega
    · omega
  · rw [hφ'] at hb
    simp only at hb
    split at hb
    · omega
    · have := h.ctr b m hb; omega
  · subst e
    have a1 : lv w φ q (b, blk) ≤ cntH w φ heap q := lv_le hg q
    have a2 : 1 ≤ lv w φ q (b, blk) := lv_self hm
    omega
  · have h1 := hcnt q
    have h2 := hlv q
    rw [if_neg (by omega)] at h2
    omega

end
end Go.Proofs.Ytnodepfoahmcmaa.E

/- The engine, part XK: appending to rows that may be written. Conditions: none. -/
namespace Go.Proofs.Ytnodepfoahmcmaa.E
set_option linter.unusedVariables false
set_option linter.unusedSimpArgs false

section
variable {P : Program} {w : World} {G : Nat → Nat} {φ : Nat → Option Nat} {ρ : Operand → Value} {o : Oper} {xs : List V} {heap : Heap} {n : Nat} {q : V × Heap × Nat}

theorem zip_left {α β : Type} {a : List α} {b c : List β} (h : a.length = b.length) : a.zip (b ++ c) = a.zip b := by
  have : a.zip (b ++ c) = (a ++ []).zip (b ++ c) := by rw [List.append_nil]
  rw [this, List.zip_append h, List.zip_nil_left, List.append_nil]
/-- New elements, without their rights, cell by cell. -/
theorem news_flat {z : Nat} {l' : List V} {news : List Value} (hz : 0 < z) (z2 : ∀ k (h : k < l'.length), (l'[k]).cells.length = z) (hnl : news.length = l'.length * z)
    (rr : ∀ k j (h : k < l'.length) (hj : j < (l'[k]).cells.length), R w G φ ((l'[k]).cells[j]) (news.getD (k * z + j) undef)) :
    ((l'.map clr2).flatMap V.cells).length = news.length ∧ (∀ x ∈ l'.map clr2, x.cells.length = z) ∧ ∀ p (h : p < ((l'.map clr2).flatMap V.cells).length), R w G φ ((l'.map clr2).flatMap V.cells)[p] (news.getD p undef) ∧ ∃ y, ((l'.map clr2).flatMap V.cells)[p] = clr1 y := by
  have h7 : ∀ x ∈ l'.map clr2, x.cells.length = z := fun x hx => by
    obtain ⟨y, hy, rfl⟩ := List.mem_map.1 hx
    obtain ⟨k, hk, rfl⟩ := List.mem_iff_getElem.1 hy
    rw [cells_clr2, List.length_map]
    exact z2 k hk
  obtain ⟨g1, g2⟩ := flatMap_get (l'.map clr2) h7
  rw [List.length_map] at g1
  refine ⟨by rw [g1, hnl], h7, fun p hp => ?_⟩
  have hd : p / z < l'.length := by rw [g1] at hp; exact (Nat.div_lt_iff_lt_mul hz).2 hp
  have hm := Nat.mod_lt p hz
  have he : p / z * z + p % z = p := by rw [Nat.mul_comm]; exact Nat.div_add_mod p z
  have hc : p % z < (l'[p / z]).cells.length := by rw [z2 _ hd]; exact hm
  have hg := g2 (p / z) (p % z) (by rw [List.length_map]; exact hd) (by rw [List.getElem_map, cells_clr2, List.length_map]; exact hc) (by rw [he]; exact hp)
  simp only [he, List.getElem_map, cells_clr2] at hg
  rw [hg]
  have h9 := rr (p / z) (p % z) hd hc
  rw [he] at h9
  refine ⟨?_, _, rfl⟩
  exact h9.clr1

/-- There is room: in place. -/
theorem app_place {b k cap m z : Nat} {l L : List V} {news : List Value} {vs : List Value} {cells : Array Value} {el : TypeId} {fr : Nat × Nat} (h : HPre w G φ xs vs heap n) (hg : get heap b = some (.rows z l)) (hz : 0 < z) (hm : m ≤ l.length) (e1 : φ b = some k) (e2 : G k = 0) (e3 : w.heap[k]? = some (.cells cells el fr)) (e4 : unfr cells fr) (e5 : (l.flatMap V.cells).length ≤ cells.size)
    (e6 : ∀ v ∈ cells, v.oneCell' = true) (e7 : ∀ x ∈ l, x.cells.length = z) (e8 : ∀ i (h : i < (l.flatMap V.cells).length), R w G φ (l.flatMap V.cells)[i] (cells.getD i undef) ∧ Tail1 w G (l.flatMap V.cells)[i] (cells.getD i undef)) (hcap : m + L.length ≤ cap) (hsz : cap * z ≤ cells.size)
    (hnl : news.length = L.length * z) (hone : ∀ u ∈ news, u.oneCell' = true) (n1 : (L.flatMap V.cells).length = news.length) (n2 : ∀ x ∈ L, x.cells.length = z) (n3 : ∀ p (h : p < (L.flatMap V.cells).length), R w G φ (L.flatMap V.cells)[p] (news.getD p undef) ∧ Tail1 w G (L.flatMap V.cells)[p] (news.getD p undef)) (n4 : ∀ q, sumTk ((L.flatMap V.cells).zip news) q ≤ vtk xs vs q) :
    HRes w G φ xs vs heap n (.hs n z 0 (m + L.length)) (set (del heap b) n (.rows z (l.take m ++ L))) (n + 1) (.slice (some ⟨k, 0, none⟩) (m + L.length) cap) (w.setCells k (m * z) news) G (fun b => if b = n then some k else φ b) := by
  have hroom : m * z + news.length ≤ cells.size := by
    have : (m + L.length) * z ≤ cap * z := Nat.mul_le_mul_right _ hcap
    rw [Nat.add_mul] at this
    omega
  obtain ⟨cells', b1, b2, b3⟩ := setCells_row' news (m * z) w cells e3 hroom
  have hov := overwritten b2 b3 hroom
  obtain ⟨s1, s2, s3, s4⟩ := setCells_same' k news (m * z) w
  have hF := (flatMap_get l e7).1
  have hmF : m * z ≤ (l.flatMap V.cells).length := by rw [hF]; exact Nat.mul_le_mul_right _ hm
  have htk7 : ∀ x ∈ l.take m, x.cells.length = z := fun x hx => e7 x (List.mem_of_mem_take hx)
  have hT : (l.take m).flatMap V.cells = (l.flatMap V.cells).take (m * z) := by
    have h1 : (l.take m).flatMap V.cells ++ (l.drop m).flatMap V.cells = l.flatMap V.cells := by rw [← List.flatMap_append, List.take_append_drop]
    have h2 := (flatMap_get (l.take m) htk7).1
    rw [List.length_take, Nat.min_eq_left hm] at h2
    rw [← h1, ← h2, List.take_left']
    rfl
  have hflat : (l.take m ++ L).flatMap V.cells = (l.flatMap V.cells).take (m * z) ++ L.flatMap V.cells := by rw [List.flatMap_append, hT]
  have hlT : ((l.flatMap V.cells).take (m * z)).length = m * z := by rw [List.length_take]; omega
  have hnew : (fun b => if b = n then some k else φ b) n = some k := by simp
  refine HRes.repl h hg e1 e2 rfl (fun c _ hc => setCells_far' _ _ _ hc) (by omega) (fun cs el' fr' hc => ?_) s1 s2 s3 (fun hext hmono => ?_) (fun p => ?_) ?_ (Tail_plain rfl _)
  · rw [e3] at hc
    injection hc with hc; injection hc with d1 d2 d3
    subst d1; subst d2; subst d3
    exact ⟨cells', b1, b2⟩
  · refine rows_in hnew e2 b1 (fun p hp => e4 p (by omega)) ?_ (fun u hu => ?_) (fun x hx => ?_) (fun p hp => ?_)
    · rw [hflat, List.length_append, hlT, n1]; omega
    · have hul : u ∈ cells'.toList := by simpa using hu
      rw [hov] at hul
      rcases List.mem_append.1 hul with hul | hul
      · exact e6 u (by have := List.mem_of_mem_take hul; simpa using this)
      · rcases List.mem_append.1 hul with hul | hul
        · exact hone u hul
        · exact e6 u (by have := List.mem_of_mem_drop hul; simpa using this)
    · rcases List.mem_append.1 hx with hx | hx
      · exact htk7 x hx
      · exact n2 x hx
    · simp only [hflat] at hp ⊢
      rw [b3]
      by_cases hpm : p < m * z
      · rw [if_neg (by omega), List.getElem_append_left (by omega), List.getElem_take]
        exact ⟨(e8 p (by omega)).1.mono hext hmono, (e8 p (by omega)).2.mono hext fun _ _ => rfl⟩
      · have hp2 : p - m * z < (L.flatMap V.cells).length := by rw [List.length_append, hlT] at hp; omega
        rw [if_pos (by omega), List.getElem_append_right (by omega)]
        simp only [hlT]
        obtain ⟨g1, g2⟩ := n3 _ hp2
        exact ⟨g1.mono hext hmono, g2.mono hext fun _ _ => rfl⟩
  · rw [lv_rows hnew b1, lv_rows e1 e3, tk_plain rfl, hflat, hov]
    have hkl : k < w.heap.size := (Array.getElem?_eq_some_iff.1 e3).1
    have z1 : sumTk (((l.flatMap V.cells).take (m * z) ++ L.flatMap V.cells).zip (cells.toList.take (m * z) ++ (news ++ cells.toList.drop (m * z + news.length)))) p = sumTk (((l.flatMap V.cells).take (m * z)).zip (cells.toList.take (m * z))) p + sumTk ((L.flatMap V.cells).zip (news ++ cells.toList.drop (m * z + news.length))) p := by
      rw [List.zip_append (by rw [hlT, List.length_take, Array.length_toList]; omega), sumTk_append]
    have z3 : sumTk ((L.flatMap V.cells).zip (news ++ cells.toList.drop (m * z + news.length))) p = sumTk ((L.flatMap V.cells).zip news) p := by rw [zip_left n1]
    have z5 := n4 p
    have z4 : sumTk (((l.flatMap V.cells).take (m * z)).zip (cells.toList.take (m * z))) p + sumTk (((l.flatMap V.cells).drop (m * z)).zip (cells.toList.drop (m * z))) p = sumTk ((l.flatMap V.cells).zip cells.toList) p := by
      rw [← sumTk_append, ← List.zip_append (by rw [hlT, List.length_take, Array.length_toList]; omega), List.take_append_drop, List.take_append_drop]
    by_cases hp : w.heap.size ≤ p
    · have hbig := vtk_big h hp
      have hle : lv w φ p (b, .rows z l) ≤ cntH w φ heap p := lv_le hg p
      rw [lv_rows e1 e3] at hle
      rw [if_pos hp]
      omega
    · rw [if_neg hp]
      omega
  · refine .hs _ n z 0 (m + L.length) cap k 0 cells' el fr hnew hcap (fun _ => by simp) b1 (by rw [b2]; omega) hz

/-- There is none: a new block. -/
theorem app_grow {b k cap m z : Nat} {cells' : Array Value} {el' : TypeId} {rest : List Value} {l L : List V} {news : List Value} {vs : List Value} {cells : Array Value} {el : TypeId} {fr : Nat × Nat} (h : HPre w G φ xs vs heap n) (hg : get heap b = some (.rows z l)) (hz : 0 < z) (hm : m ≤ l.length) (e1 : φ b = some k) (e2 : G k = 0) (e3 : w.heap[k]? = some (.cells cells el fr)) (e4 : unfr cells fr) (e5 : (l.flatMap V.cells).length ≤ cells.size)
    (e6 : ∀ v ∈ cells, v.oneCell' = true) (e7 : ∀ x ∈ l, x.cells.length = z) (e8 : ∀ i (h : i < (l.flatMap V.cells).length), R w G φ (l.flatMap V.cells)[i] (cells.getD i undef) ∧ Tail1 w G (l.flatMap V.cells)[i] (cells.getD i undef)) (hcap : m + L.length ≤ cap) (hsz : cap * z ≤ cells'.size) (hov : cells'.toList = cells.toList.take (m * z) ++ (news ++ rest)) (hro : ∀ u ∈ rest, u.oneCell' = true)
    (hnl : news.length = L.length * z) (hone : ∀ u ∈ news, u.oneCell' = true) (n1 : (L.flatMap V.cells).length = news.length) (n2 : ∀ x ∈ L, x.cells.length = z) (n3 : ∀ p (h : p < (L.flatMap V.cells).length), R w G φ (L.flatMap V.cells)[p] (news.getD p undef) ∧ Tail1 w G (L.flatMap V.cells)[p] (news.getD p undef)) (n4 : ∀ q, sumTk ((L.flatMap V.cells).zip news) q ≤ vtk xs vs q) :
    HRes w G φ xs vs heap n (.hs n z 0 (m + L.length)) (set (del heap b) n (.rows z (l.take m ++ L))) (n + 1) (.slice (some ⟨w.heap.size, 0, none⟩) (m + L.length) cap) (w.drew.alloc (.cells cells' el')) G (fun b => if b = n then some w.heap.size else φ b) := by
  have b1 : (w.drew.alloc (.cells cells' el')).heap[w.heap.size]? = some (.cells cells' el') := heap_alloc_new w.drew _
  have hkl : k < w.heap.size := (Array.getElem?_eq_some_iff.1 e3).1
  have hF := (flatMap_get l e7).1
  have hmF : m * z ≤ (l.flatMap V.cells).length := by rw [hF]; exact Nat.mul_le_mul_right _ hm
  have htk7 : ∀ x ∈ l.take m, x.cells.length = z := fun x hx => e7 x (List.mem_of_mem_take hx)
  have hT : (l.take m).flatMap V.cells = (l.flatMap V.cells).take (m * z) := by
    have h1 : (l.take m).flatMap V.cells ++ (l.drop m).flatMap V.cells = l.flatMap V.cells := by rw [← List.flatMap_append, List.take_append_drop]
    have h2 := (flatMap_get (l.take m) htk7).1
    rw [List.length_take, Nat.min_eq_left hm] at h2
    rw [← h1, ← h2, List.take_left']
    rfl
  have hflat : (l.take m ++ L).flatMap V.cells = (l.flatMap V.cells).take (m * z) ++ L.flatMap V.cells := by rw [List.flatMap_append, hT]
  have hlT : ((l.flatMap V.cells).take (m * z)).length = m * z := by rw [List.length_take]; omega
  have hnew : (fun b => if b = n then some w.heap.size else φ b) n = some w.heap.size := by simp
  have hcT : (cells.toList.take (m * z)).length = m * z := by rw [List.length_take, Array.length_toList]; omega
  have hnlen : m * z + news.length ≤ cells'.size := by
    have := congrArg List.length hov
    rw [Array.length_toList, List.length_append, List.length_append, hcT] at this
    omega
  have hgd : ∀ p, p < cells'.size → cells'.getD p undef = (cells.toList.take (m * z) ++ (news ++ rest)).getD p undef := fun p hp => by
    rw [← hov, List.getD_eq_getElem?_getD, List.getElem?_eq_getElem (by simpa using hp)]
    simp [Array.getD, hp]
  refine HRes.repl h hg e1 e2 rfl (fun c hc _ => heap_alloc_old w.drew _ hc) (by show _ ≤ (w.heap.push _).size; rw [Array.size_push]; omega) (fun cs el' fr' hc => ⟨cs, by rw [heap_alloc_old w.drew _ hkl]; exact hc, rfl⟩) rfl rfl rfl (fun hext hmono => ?_) (fun p => ?_) ?_ (Tail_plain rfl _)
  · refine rows_in hnew (h.zero _ (Nat.le_refl _)) b1 (fun p hp hq => by omega) ?_ (fun u hu => ?_) (fun x hx => ?_) (fun p hp => ?_)
    · rw [hflat, List.length_append, hlT, n1]; omega
    · have hul : u ∈ cells'.toList := by simpa using hu
      rw [hov] at hul
      rcases List.mem_append.1 hul with hul | hul
      · exact e6 u (by have := List.mem_of_mem_take hul; simpa using this)
      · rcases List.mem_append.1 hul with hul | hul
        · exact hone u hul
        · exact hro u hul
    · rcases List.mem_append.1 hx with hx | hx
      · exact htk7 x hx
      · exact n2 x hx
    · simp only [hflat] at hp ⊢
      have hps : p < cells'.size := by rw [List.length_append, hlT, n1] at hp; omega
      rw [hgd p hps]
      by_cases hpm : p < m * z
      · have e9 : (cells.toList.take (m * z) ++ (news ++ rest)).getD p undef = cells.getD p undef := by
          have h9 : p < cells.size := by omega
          rw [List.getD_eq_getElem?_getD, List.getElem?_append_left (by omega), List.getElem?_take_of_lt hpm, Array.getElem?_toList]
          simp [Array.getD, h9]
        rw [e9, List.getElem_append_left (by omega), List.getElem_take]
        exact ⟨(e8 p (by omega)).1.mono hext hmono, (e8 p (by omega)).2.mono hext fun _ _ => rfl⟩
      · have hp2 : p - m * z < (L.flatMap V.cells).length := by rw [List.length_append, hlT] at hp; omega
        have e9 : (cells.toList.take (m * z) ++ (news ++ rest)).getD p undef = news.getD (p - m * z) undef := by
          rw [List.getD_eq_getElem?_getD, List.getElem?_append_right (by omega), hcT, List.getElem?_append_left (by omega), ← List.getD_eq_getElem?_getD]
        rw [e9, List.getElem_append_right (by omega)]
        simp only [hlT]
        obtain ⟨g1, g2⟩ := n3 _ hp2
        exact ⟨g1.mono hext hmono, g2.mono hext fun _ _ => rfl⟩
  · rw [lv_rows hnew b1, lv_rows e1 e3, tk_plain rfl, hflat, hov]
    have z1 : sumTk (((l.flatMap V.cells).take (m * z) ++ L.flatMap V.cells).zip (cells.toList.take (m * z) ++ (news ++ rest))) p = sumTk (((l.flatMap V.cells).take (m * z)).zip (cells.toList.take (m * z))) p + sumTk ((L.flatMap V.cells).zip (news ++ rest)) p := by
      rw [List.zip_append (by rw [hlT, List.length_take, Array.length_toList]; omega), sumTk_append]
    have z3 : sumTk ((L.flatMap V.cells).zip (news ++ rest)) p = sumTk ((L.flatMap V.cells).zip news) p := by rw [zip_left n1]
    have z5 := n4 p
    have z4 : sumTk (((l.flatMap V.cells).take (m * z)).zip (cells.toList.take (m * z))) p + sumTk (((l.flatMap V.cells).drop (m * z)).zip (cells.toList.drop (m * z))) p = sumTk ((l.flatMap V.cells).zip cells.toList) p := by
      rw [← sumTk_append, ← List.zip_append (by rw [hlT, List.length_take, Array.length_toList]; omega), List.take_append_drop, List.take_append_drop]
    by_cases hp : w.heap.size ≤ p
    · have hbig := vtk_big h hp
      have hle : lv w φ p (b, .rows z l) ≤ cntH w φ heap p := lv_le hg p
      rw [lv_rows e1 e3] at hle
      rw [if_pos hp]
      split <;> omega
    · rw [if_neg hp, if_neg (by omega)]
      omega
  · refine .hs _ n z 0 (m + L.length) cap w.heap.size 0 cells' el' (0, 0) hnew hcap (fun _ => by simp) b1 (by omega) hz

end
end Go.Proofs.Ytnodepfoahmcmaa.E
