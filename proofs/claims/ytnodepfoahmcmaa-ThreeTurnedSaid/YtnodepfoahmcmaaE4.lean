/- The engine, bundle 4: values as trees, abstract code, and that what abstract code says the machine does. Conditions: none. -/
import Derived.Below
import Derived.Laws.AppendOwn
import Derived.Lib.AppendStr
import Derived.OwnWalk
import Derived.Test.YtnodepfoahmcmaaE3
/- The engine, part AF: how operations are run by rewriting. Conditions: none. -/
namespace Go.Proofs.Ytnodepfoahmcmaa.E
set_option linter.unusedVariables false
set_option linter.unusedSimpArgs false

def pickV (c : Bool) (a b : V) : V := if c then clr a else clr b
def hasN : List Nat → Nat → Bool
  | [], _ => false
  | b :: l, a => if a = b then true else hasN l a
theorem hasN_eq : ∀ (l : List Nat) (a : Nat), l.contains a = hasN l a
  | [], _ => rfl
  | b :: l, a => by
    rw [List.contains_cons, hasN, hasN_eq l a]
    by_cases h : a = b
    · simp [h]
    · simp [h]
def ldB (blk : Blk) (z i o : Nat) (m : Option Nat) (k : V → Prop) : Prop := match blk with | .rows z' l => Req (z = z') (WK l[i]? (fun row => WK (part row.cells o m) k ⟨⟩) ⟨⟩) | _ => False
def stB (blk : Blk) (z i o m : Nat) (y : V) (k : List V → Prop) : Prop := match blk with | .rows z' l => Req (z = z' ∧ y.cells.length = m ∧ o + m ≤ z ∧ solid y = true ∧ y.cells.all okCell = true) (WK l[i]? (fun row => k (l.set i (reRow row (row.cells.take o ++ y.cells ++ row.cells.drop (o + m))))) ⟨⟩) | _ => False
def mpB (blk : Blk) (k : List (V × V) → Prop) : Prop := match blk with | .map es => k es | _ => False
def outQ (ok : Bool) (z : V) (q : Option (Nat × V)) : V := match q with
  | some (_, v) => if ok then V.tup [clr2 v, .bool true] else clr2 v
  | none => if ok then V.tup [clr2 z, .bool false] else clr2 z
def updQ (es : List (V × V)) (y v : V) (q : Option (Nat × V)) : List (V × V) := match q with | some (i, _) => es.set i (y, v) | none => es ++ [(clr2 y, v)]
def tkB (blk : Blk) (z i o : Nat) (k : V → List V → Prop) : Prop := match blk with | .rows z' l => Req (z = z') (WK l[i]? (fun row => WK row.cells[o]? (fun c => Req (okCell c = true) (k c (l.set i (reRow row (row.cells.take o ++ [clr1 c] ++ row.cells.drop (o + 1)))))) ⟨⟩) ⟨⟩) | _ => False
def clB (blk : Blk) (sz o m : Nat) (zero : V) (k : List V → Prop) : Prop := match blk with | .rows z' l => Req (z' = sz ∧ o + m ≤ l.length ∧ zero.cells.length = sz ∧ noH2 zero = true ∧ zero.cells.all okCell = true) (k (l.take o ++ List.replicate m (clr2 zero) ++ l.drop (o + m))) | _ => False
/-- Something is taken out of a map. -/
def lkT (z y : V) (es : List (V × V)) (q : Option (Nat × V)) (b : Nat) (h : Heap) (k : V × Heap × Nat → Prop) : Prop := match q with | some (i, v) => k (v, set h b (.map (es.set i (y, clr2 v))), 0) | none => k (z, h, 0)
def frB (h : Heap) (b z o m : Nat) (k : V × Heap × Nat → Prop) : Prop := W (hf (.frz z) [.hs b z o m] h 0) k
def mv1 (e : List (Nat × V)) (m : Nat) : Option V → List (Nat × V)
  | some x => set e m (clr x)
  | none => e
/-! ### Slots as they were laid, the last first -/
def cn (l : List (Nat × V)) : List (Nat × V) := l.foldr (fun p r => set r p.1 p.2) []
def lkO : List (Nat × V) → Nat → Option V
  | [], _ => none
  | (a, x) :: r, k => if k = a then some x else lkO r k
def lk (l : List (Nat × V)) (k : Nat) : V := (lkO l k).getD .junk
def selc (j : Nat) : Option V → List (Nat × V) → List (Nat × V)
  | some x, r => (j, x) :: r
  | none, r => r
def sel : List Nat → List (Nat × V) → List (Nat × V)
  | [], _ => []
  | j :: ks, l => selc j (lkO l j) (sel ks l)
theorem set_cn {l : List (Nat × V)} {k : Nat} {x : V} : set (cn l) k x = cn ((k, x) :: l) := rfl
theorem get_set1 {α : Type} (k : Nat) (x : α) (j : Nat) : ∀ l : List (Nat × α), get (set l k x) j = if j = k then some x else get l j
  | [] => by simp [set, get]
  | (a, y) :: r => by
    have ih := get_set1 k x j r
    simp only [set]
    split
    · simp only [get]
    · split
      · rename_i h1 h2; subst h2; simp only [get]; split <;> rfl
      · rename_i h1 h2
        simp only [get, ih]
        by_cases h3 : j = a
        · rw [if_pos h3, if_pos h3, if_neg (by omega)]
        · rw [if_neg h3, if_neg h3]
theorem get_cn (k : Nat) : ∀ l : List (Nat × V), get (cn l) k = lkO l k
  | [] => rfl
  | (a, x) :: l => by rw [← set_cn, get_set1, get_cn k l]; rfl
theorem cn_sorted : ∀ l : List (Nat × V), Sorted (cn l)
  | [] => List.Pairwise.nil
  | (a, x) :: l => set_sorted (cn_sorted l) a x
theorem getJ_cn {l : List (Nat × V)} {k : Nat} : getJ (cn l) k = lk l k := by rw [← getJ_eq, get_cn]; rfl
theorem sorted_ext {α : Type} : ∀ {l l' : List (Nat × α)}, Sorted l → Sorted l' → (∀ k, get l k = get l' k) → l = l'
  | [], [], _, _, _ => rfl
  | [], (b, y) :: r', _, _, h => by have := h b; simp [get] at this
  | (a, x) :: r, [], _, _, h => by have := h a; simp [get] at this
  | (a, x) :: r, (b, y) :: r', s1, s2, h => by
    have s1' := List.pairwise_cons.1 s1
    have s2' := List.pairwise_cons.1 s2
    have hab : a = b := by
      rcases Nat.lt_trichotomy a b with c | c | c
      · have e := h a
        simp only [get, if_true] at e
        rw [if_neg (by omega)] at e
        have := s2'.1 _ (get_mem e.symm)
        simp only at this; omega
      · exact c
      · have e := h b
        simp only [get, if_true] at e
        rw [if_neg (by omega)] at e
        have := s1'.1 _ (get_mem e)
        simp only at this; omega
    subst hab
    have hx : x = y := by have := h a; simpa [get] using this
    subst hx
    congr 1
    refine sorted_ext s1'.2 s2'.2 fun k => ?_
    by_cases c : k = a
    · subst c
      have none1 : ∀ {q : List (Nat × α)}, (∀ p ∈ q, k < p.1) → get q k = none := fun {q} hq => by
        cases hg : get q k with
        | none => rfl
        | some z => have := hq _ (get_mem hg); simp only at this; omega
      rw [none1 s1'.1, none1 s2'.1]
    · have := h k
      simpa [get, c] using this
theorem get_keep {α : Type} (ks : List Nat) (k : Nat) : ∀ l : List (Nat × α), get (keep ks l) k = if ks.contains k = true then get l k else none
  | [] => by simp [keep, get]
  | (a, x) :: l => by
    have ih := get_keep ks k l
    unfold keep at ih ⊢
    rw [List.filter_cons]
    by_cases c : ks.contains a = true
    · simp only [c, if_true, get]
      by_cases e : k = a
      · subst e; rw [if_pos rfl, if_pos c, if_pos rfl]
      · rw [if_neg e, ih, if_neg e]
    · simp only [c, get]
      rw [if_neg (by simp), ih]
      by_cases e : k = a
      · subst e; simp only [c]; rfl
      · rw [if_neg e]
theorem lkO_sel (l : List (Nat × V)) (k : Nat) : ∀ ks : List Nat, lkO (sel ks l) k = if ks.contains k = true then lkO l k else none
  | [] => by simp [sel, lkO]
  | j :: ks => by
    have ih := lkO_sel l k ks
    simp only [sel, List.contains_cons]
    cases hj : lkO l j with
    | none =>
      simp only [selc, ih]
      by_cases e : k = j
      · subst e; simp [hj]
      · simp [e]
    | some x =>
      simp only [selc, lkO, ih]
      by_cases e : k = j
      · subst e; simp [hj]
      · simp [e]
theorem keep_cn {ks : List Nat} {l : List (Nat × V)} : keep ks (cn l) = cn (sel ks l) :=
  sorted_ext (keep_sorted (cn_sorted l) ks) (cn_sorted _) fun k => by rw [get_keep, get_cn, get_cn, lkO_sel]
theorem cn_id : ∀ {l : List (Nat × V)}, Sorted l → cn l = l
  | [], _ => rfl
  | (a, x) :: l, h => by
    have h' := List.pairwise_cons.1 h
    rw [← set_cn, cn_id h'.2]
    cases l with
    | nil => rfl
    | cons p l =>
      obtain ⟨b, y⟩ := p
      have := h'.1 (b, y) (by simp)
      simp only at this
      simp only [set]
      rw [if_pos this]
theorem initE_low : ∀ (l : List V) (i : Nat), ∀ p ∈ initE i l, i ≤ p.1
  | [], i, p, h => by simp [initE] at h
  | x :: l, i, p, h => by
    simp only [initE, List.mem_cons] at h
    rcases h with rfl | h
    · exact Nat.le_refl _
    · have := initE_low l (i + 1) p h; omega
theorem initE_srt : ∀ (l : List V) (i : Nat), Sorted (initE i l)
  | [], i => List.Pairwise.nil
  | x :: l, i => List.Pairwise.cons (fun p hp => by have := initE_low l (i + 1) p hp; simp only; omega) (initE_srt l (i + 1))
/-- A function is entered. -/
theorem enter {T : Tab} {f v : Nat} {F : AFun} {args : List V} {hp : Heap} {n : Nat} {Q : V → Heap → Nat → Prop} (hT : T.fn f v = some F) (hl : args.length = F.np) (hh : wpC (Run T) F.code (endQ F.res Q) ⟨cn (initE 0 args), [], hp, n⟩) : Run T f v args hp n Q :=
  run_enter hT hl (by rw [cn_id (initE_srt args 0)] at hh; exact hh)
/-- A loop is entered. -/
theorem loopI {X : Sem3} {Q : AE → St → Prop} {ke kl : List Nat} {c : AC} {l : List (Nat × V)} {loc : List (Nat × (Nat × List V))} {h : Heap} {n : Nat} (hh : ∀ L : St → Prop, (∀ st, wpC X c (loopQ L ke kl Q) st → L st) → L ⟨cn (sel ke l), keep kl loc, h, n⟩) : wpC X (.loop ke kl c) Q ⟨cn l, loc, h, n⟩ :=
  loop_intro fun L hL => by rw [keep_cn]; exact hh L hL
section
variable {k : V → Prop}
theorem pf_mv {t : Tag k} {x : V} : WK (pf .mv [x]) k t = k x := nr rfl
theorem pf_same {t : Tag k} {s : List UInt8} : WK (pf .same [.str s]) k t = k (.str s) := nr rfl
theorem pf_pick {t : Tag k} {c : Bool} {a b : V} : WK (pf .pick [.bool c, a, b]) k t = k (pickV c a b) := nr rfl
theorem pf_ar_add {t : Tag k} {a b : Int} : WK (pf (.ar .add) [.int .i64 a, .int .i64 b]) k t = Req (-9223372036854775808 ≤ a + b ∧ a + b ≤ 9223372036854775807) (k (.int .i64 (a + b))) := by
  unfold WK
  simp only [pf, and_self, if_true, arF, Option.bind_some]
  rw [W_ite]
  rfl
theorem pf_arw_add {t : Tag k} {q : IntKind} {a b : Int} : WK (pf (.arw .add) [.int q a, .int q b]) k t = k (.int q (q.wrap (a + b))) := by
  unfold WK
  simp [pf, arF, W]
theorem pf_ar_sub {t : Tag k} {a b : Int} : WK (pf (.ar .sub) [.int .i64 a, .int .i64 b]) k t = Req (-9223372036854775808 ≤ a - b ∧ a - b ≤ 9223372036854775807) (k (.int .i64 (a - b))) := by
  unfold WK
  simp only [pf, and_self, if_true, arF, Option.bind_some]
  rw [W_ite]
  rfl
theorem pf_arw_sub {t : Tag k} {q : IntKind} {a b : Int} : WK (pf (.arw .sub) [.int q a, .int q b]) k t = k (.int q (q.wrap (a - b))) := by
  unfold WK
  simp [pf, arF, W]
theorem pf_ar_mul {t : Tag k} {a b : Int} : WK (pf (.ar .mul) [.int .i64 a, .int .i64 b]) k t = Req (-9223372036854775808 ≤ a * b ∧ a * b ≤ 9223372036854775807) (k (.int .i64 (a * b))) := by
  unfold WK
  simp only [pf, and_self, if_true, arF, Option.bind_some]
  rw [W_ite]
  rfl
theorem pf_arw_mul {t : Tag k} {q : IntKind} {a b : Int} : WK (pf (.arw .mul) [.int q a, .int q b]) k t = k (.int q (q.wrap (a * b))) := by
  unfold WK
  simp [pf, arF, W]
theorem pf_quo {t : Tag k} {q : IntKind} {a b : Int} : WK (pf (.dv .quo) [.int q a, .int q b]) k t = Req (b ≠ 0) (k (.int q (q.wrap (a.tdiv b)))) := by
  unfold WK
  simp only [pf, true_and]; rw [W_ite]; rfl
theorem pf_rem {t : Tag k} {q : IntKind} {a b : Int} : WK (pf (.dv .rem) [.int q a, .int q b]) k t = Req (b ≠ 0) (k (.int q (a.tmod b))) := by
  unfold WK
  simp only [pf, true_and]; rw [W_ite]; rfl
theorem pf_bits {t : Tag k} {op : BinOp} {q : IntKind} {a b : Int} : WK (pf (.bits op) [.int q a, .int q b]) k t = WK (bitsF op q a b) (fun r => k (.int q r)) ⟨⟩ := by
  unfold WK
  simp only [pf, if_pos, W_map]
theorem pf_sh {t : Tag k} {op : BinOp} {q q' : IntKind} {a b : Int} : WK (pf (.sh op) [.int q a, .int q' b]) k t = Req (0 ≤ b) (WK (shF op q a b) (fun r => k (.int q r)) ⟨⟩) := by
  unfold WK
  simp only [pf]; rw [W_ite, W_map]
theorem pf_cmp_eql {t : Tag k} {q : IntKind} {a b : Int} : WK (pf (.cmp .eql) [.int q a, .int q b]) k t = k (.bool (decide (a = b))) := by
  unfold WK
  simp [pf, cmpF, W]
theorem pf_cmp_neq {t : Tag k} {q : IntKind} {a b : Int} : WK (pf (.cmp .neq) [.int q a, .int q b]) k t = k (.bool (decide (a ≠ b))) := by
  unfold WK
  simp [pf, cmpF, W]
theorem pf_cmp_lss {t : Tag k} {q : IntKind} {a b : Int} : WK (pf (.cmp .lss) [.int q a, .int q b]) k t = k (.bool (decide (a < b))) := by
  unfold WK
  simp [pf, cmpF, W]
theorem pf_cmp_leq {t : Tag k} {q : IntKind} {a b : Int} : WK (pf (.cmp .leq) [.int q a, .int q b]) k t = k (.bool (decide (a ≤ b))) := by
  unfold WK
  simp [pf, cmpF, W]
theorem pf_cmp_gtr {t : Tag k} {q : IntKind} {a b : Int} : WK (pf (.cmp .gtr) [.int q a, .int q b]) k t = k (.bool (decide (a > b))) := by
  unfold WK
  simp [pf, cmpF, W]
theorem pf_cmp_geq {t : Tag k} {q : IntKind} {a b : Int} : WK (pf (.cmp .geq) [.int q a, .int q b]) k t = k (.bool (decide (a ≥ b))) := by
  unfold WK
  simp [pf, cmpF, W]
theorem pf_scmp_eql {t : Tag k} {a b : List UInt8} : WK (pf (.scmp .eql) [.str a, .str b]) k t = k (.bool (decide (a = b))) := nr rfl
theorem pf_scmp_neq {t : Tag k} {a b : List UInt8} : WK (pf (.scmp .neq) [.str a, .str b]) k t = k (.bool (decide (a ≠ b))) := nr rfl
theorem pf_scmp_lss {t : Tag k} {a b : List UInt8} : WK (pf (.scmp .lss) [.str a, .str b]) k t = k (.bool (bytesLt a b)) := nr rfl
theorem pf_scmp_leq {t : Tag k} {a b : List UInt8} : WK (pf (.scmp .leq) [.str a, .str b]) k t = k (.bool (bytesLt a b || decide (a = b))) := nr rfl
theorem pf_scmp_gtr {t : Tag k} {a b : List UInt8} : WK (pf (.scmp .gtr) [.str a, .str b]) k t = k (.bool (!(bytesLt a b || decide (a = b)))) := nr rfl
theorem pf_scmp_geq {t : Tag k} {a b : List UInt8} : WK (pf (.scmp .geq) [.str a, .str b]) k t = k (.bool (!bytesLt a b)) := nr rfl
theorem pf_sadd {t : Tag k} {a b : List UInt8} : WK (pf .sadd [.str a, .str b]) k t = Req (a.length + b.length ≤ 17592186044416) (k (.str (a ++ b))) := by
  unfold WK
  simp only [pf]; rw [W_ite]; rfl
theorem pf_eqB {t : Tag k} {a b : Bool} : WK (pf (.eq false false [0]) [.bool a, .bool b]) k t = k (.bool (decide (a = b))) := nr rfl
theorem pf_neB {t : Tag k} {a b : Bool} : WK (pf (.eq true false [0]) [.bool a, .bool b]) k t = k (.bool (!decide (a = b))) := nr rfl
theorem pf_eqA {t : Tag k} {ks : List Nat} {x y : List V} : WK (pf (.eq false true ks) [.agg x, .agg y]) k t = WK (eqL ks x y) (fun r => k (.bool r)) ⟨⟩ := by
  unfold WK
  simp only [pf, eqV, W_map]; rfl
theorem pf_neA {t : Tag k} {ks : List Nat} {x y : List V} : WK (pf (.eq true true ks) [.agg x, .agg y]) k t = WK (eqL ks x y) (fun r => k (.bool (!r))) ⟨⟩ := by
  unfold WK
  simp only [pf, eqV, W_map]; rfl
theorem pf_not {t : Tag k} {b : Bool} : WK (pf .not [.bool b]) k t = k (.bool (!b)) := nr rfl
theorem pf_neg {t : Tag k} {q : IntKind} {a : Int} : WK (pf .neg [.int q a]) k t = k (.int q (q.wrap (0 - a))) := nr rfl
theorem pf_lenS {t : Tag k} {s : List UInt8} : WK (pf (.len true) [.str s]) k t = k (.int .i64 s.length) := nr rfl
theorem pf_lenL {t : Tag k} {o : Bool} {z : Nat} {l : List V} : WK (pf (.len false) [.sl o z l]) k t = k (.int .i64 l.length) := nr rfl
theorem pf_lenH {t : Tag k} {b z o m : Nat} : WK (pf (.len false) [.hs b z o m]) k t = k (.int .i64 m) := nr rfl
theorem pf_min {t : Tag k} {q : IntKind} {a b : Int} : WK (pf .min [.int q a, .int q b]) k t = k (.int q (if b < a then b else a)) := by
  unfold WK
  simp [pf, W]
theorem pf_max {t : Tag k} {q : IntKind} {a b : Int} : WK (pf .max [.int q a, .int q b]) k t = k (.int q (if b > a then b else a)) := by
  unfold WK
  simp [pf, W]
theorem pf_conv {t : Tag k} {q q' : IntKind} {a : Int} : WK (pf (.conv q) [.int q' a]) k t = k (.int q (q.wrap a)) := nr rfl
theorem pf_b2s {t : Tag k} {o : Bool} {l : List V} : WK (pf .b2s [.sl o 1 l]) k t = WK (bytesOf l) (fun s => k (.str s)) ⟨⟩ := by
  unfold WK
  simp only [pf, if_pos, W_map]
theorem pf_sidx {t : Tag k} {s : List UInt8} {q : IntKind} {i : Int} : WK (pf .sidx [.str s, .int q i]) k t = Req (0 ≤ i) (WK s[i.toNat]? (fun b => k (.int .u8 b.toNat)) ⟨⟩) := by
  unfold WK
  simp only [pf]
  rw [W_ite]
  by_cases h0 : 0 ≤ i
  · by_cases h1 : i.toNat < s.length
    · have h2 : i < s.length := by omega
      rw [List.getElem?_eq_getElem h1]
      simp [Req, h0, h2, W, List.getD_eq_getElem?_getD, h1]
    · have h2 : ¬ i < s.length := by omega
      rw [List.getElem?_eq_none (by omega)]
      simp [Req, h0, h2, W]
  · simp [Req, h0]
theorem pf_faddrP {t : Tag k} {o b z i f : Nat} : WK (pf (.faddr o) [.ptr b z i f]) k t = k (.ptr b z i (f + o)) := nr rfl
theorem pf_faddrF {t : Tag k} {o f : Nat} {cs : List V} : WK (pf (.faddr o) [.fptr cs f]) k t = k (.fptr cs (f + o)) := nr rfl
theorem pf_isnil {t : Tag k} {o : Bool} {z : Nat} {l : List V} {g : Bool} : WK (pf (.isnil g) [.sl o z l, .hs 0 0 0 0]) k t = Req (0 < l.length) (k (.bool g)) := by
  unfold WK
  cases l <;> simp [pf, Req, W]
theorem pf_isnilH {t : Tag k} {b z o m : Nat} {g : Bool} : WK (pf (.isnil g) [.hs b z o m, .hs 0 0 0 0]) k t = k (.bool ((z == 0) != g)) := nr rfl
theorem pf_isniliN {t : Tag k} {g : Bool} : WK (pf (.isnili g) [.nili, .nili]) k t = k (.bool (!g)) := nr rfl
theorem pf_isniliI {t : Tag k} {g : Bool} {y : TypeId} {x : V} : WK (pf (.isnili g) [.iface y x, .nili]) k t = k (.bool g) := nr rfl
theorem pf_field {t : Tag k} {o : Nat} {m : Option Nat} {cs : List V} : WK (pf (.field o m) [.agg cs]) k t = WK (part cs o m) (fun y => k (clr y)) ⟨⟩ := by
  unfold WK
  simp only [pf, W_map]
theorem pf_iaddr {t : Tag k} {o : Bool} {z : Nat} {l : List V} {q : IntKind} {i : Int} : WK (pf (.iaddr z) [.sl o z l, .int q i]) k t = Req (0 ≤ i) (WK l[i.toNat]? (fun x => k (.fptr x.cells 0)) ⟨⟩) := by
  unfold WK
  simp only [pf, true_and]
  rw [W_ite, W_map]
  by_cases h0 : 0 ≤ i
  · by_cases h1 : i.toNat < l.length
    · have h2 : i < l.length := by omega
      simp [Req, h0, h2]
    · have h2 : ¬ i < l.length := by omega
      rw [List.getElem?_eq_none (by omega)]
      simp [Req, h0, h2, W]
  · simp [Req, h0]
theorem pf_iaddrH {t : Tag k} {b z o m : Nat} {q : IntKind} {i : Int} : WK (pf (.iaddr z) [.hs b z o m, .int q i]) k t = Req (0 < z ∧ 0 ≤ i ∧ i < m) (k (.ptr b z (o + i.toNat) 0)) := by
  unfold WK
  simp only [pf, true_and]; rw [W_ite]; rfl
theorem pf_aaddrP {t : Tag k} {z m b y i f : Nat} {q : IntKind} {j : Int} : WK (pf (.aaddr z m) [.ptr b y i f, .int q j]) k t = Req (0 ≤ j ∧ j < m) (k (.ptr b y i (f + j.toNat * z))) := by
  unfold WK
  simp only [pf]; rw [W_ite]; rfl
theorem pf_aaddrF {t : Tag k} {z m f : Nat} {cs : List V} {q : IntKind} {j : Int} : WK (pf (.aaddr z m) [.fptr cs f, .int q j]) k t = Req (0 ≤ j ∧ j < m) (k (.fptr cs (f + j.toNat * z))) := by
  unfold WK
  simp only [pf]; rw [W_ite]; rfl
theorem pf_aidx {t : Tag k} {z m : Nat} {y : Option Nat} {cs : List V} {q : IntKind} {j : Int} : WK (pf (.aidx z m y) [.agg cs, .int q j]) k t = Req (0 ≤ j ∧ j < m) (WK (part cs (j.toNat * z) y) (fun x => k (clr x)) ⟨⟩) := by
  unfold WK
  simp only [pf]; rw [W_ite, W_map]
theorem pf_loadF {t : Tag k} {m : Option Nat} {cs : List V} {o : Nat} : WK (pf (.loadF m) [.fptr cs o]) k t = WK (part cs o m) (fun y => k (clr y)) ⟨⟩ := by
  unfold WK
  simp only [pf, W_map]
theorem pf_nckP {t : Tag k} {b z i f : Nat} : WK (pf .nilck [.ptr b z i f]) k t = k (.ptr b z i f) := nr rfl
theorem pf_nckF {t : Tag k} {cs : List V} {f : Nat} : WK (pf .nilck [.fptr cs f]) k t = k (.fptr cs f) := nr rfl
theorem pf_nckN {t : Tag k} {f : FuncId} {cs : List V} : WK (pf .nilck [.fn f cs]) k t = k (.fn f cs) := nr rfl
theorem pf_ssub_ff {t : Tag k} {s : List UInt8} : WK (pf (.ssub false false) [.str s]) k t = k (.str s) := by
  unfold WK
  simp [pf, optI, W]
theorem pf_ssub_tf {t : Tag k} {s : List UInt8} {q : IntKind} {l : Int} : WK (pf (.ssub true false) [.str s, .int q l]) k t = Req (0 ≤ l ∧ l ≤ s.length) (k (.str (s.drop l.toNat))) := by
  unfold WK
  simp only [pf, optI, Option.bind_some]
  rw [W_ite, W_some]
  simp
theorem pf_ssub_ft {t : Tag k} {s : List UInt8} {q : IntKind} {h : Int} : WK (pf (.ssub false true) [.str s, .int q h]) k t = Req (0 ≤ h ∧ h ≤ s.length) (k (.str (s.take h.toNat))) := by
  unfold WK
  simp only [pf, optI, Option.bind_some]
  rw [W_ite, W_some]
  simp
theorem pf_ssub_tt {t : Tag k} {s : List UInt8} {q q' : IntKind} {l h : Int} : WK (pf (.ssub true true) [.str s, .int q l, .int q' h]) k t = Req (0 ≤ l ∧ l ≤ h ∧ h ≤ s.length) (k (.str ((s.take h.toNat).drop l.toNat))) := by
  unfold WK
  simp only [pf, optI, Option.bind_some]; rw [W_ite, W_some]
theorem pf_sub_ff {t : Tag k} {o : Bool} {z : Nat} {s : List V} : WK (pf (.sub z false false false) [.sl o z s]) k t = k (.sl false z s) := by
  unfold WK
  simp [pf, optI, W]
theorem pf_sub_tf {t : Tag k} {o : Bool} {z : Nat} {s : List V} {q : IntKind} {l : Int} : WK (pf (.sub z true false false) [.sl o z s, .int q l]) k t = Req (0 ≤ l ∧ l ≤ s.length) (k (.sl false z (s.drop l.toNat))) := by
  unfold WK
  simp only [pf, optI, Option.bind_some]
  rw [W_ite, W_some]
  simp
theorem pf_sub_ft {t : Tag k} {o : Bool} {z : Nat} {s : List V} {q : IntKind} {h : Int} : WK (pf (.sub z false true false) [.sl o z s, .int q h]) k t = Req (0 ≤ h ∧ h ≤ s.length) (k (.sl false z (s.take h.toNat))) := by
  unfold WK
  simp only [pf, optI, Option.bind_some]
  rw [W_ite, W_some]
  simp
theorem pf_sub_tt {t : Tag k} {o : Bool} {z : Nat} {s : List V} {q q' : IntKind} {l h : Int} : WK (pf (.sub z true true false) [.sl o z s, .int q l, .int q' h]) k t = Req (0 ≤ l ∧ l ≤ h ∧ h ≤ s.length) (k (.sl false z ((s.take h.toNat).drop l.toNat))) := by
  unfold WK
  simp only [pf, optI, Option.bind_some]
  rw [W_ite, W_some]
  simp
theorem pf_sub_ftt {t : Tag k} {o : Bool} {z : Nat} {s : List V} {q q' : IntKind} {h m : Int} : WK (pf (.sub z false true true) [.sl o z s, .int q h, .int q' m]) k t = Req (0 ≤ h ∧ h ≤ s.length ∧ m = h) (k (.sl true z (s.take h.toNat))) := by
  unfold WK
  simp only [pf, optI, Option.bind_some]
  rw [W_ite, W_some]
  simp
theorem pf_sub_ttt {t : Tag k} {o : Bool} {z : Nat} {s : List V} {q q' q2 : IntKind} {l h m : Int} : WK (pf (.sub z true true true) [.sl o z s, .int q l, .int q' h, .int q2 m]) k t = Req (0 ≤ l ∧ l ≤ h ∧ h ≤ s.length ∧ m = h) (k (.sl true z ((s.take h.toNat).drop l.toNat))) := by
  unfold WK
  simp only [pf, optI, Option.bind_some]
  rw [W_ite, W_some]
  simp
theorem pf_subH_tf {t : Tag k} {b z o m : Nat} {q : IntKind} {l : Int} : WK (pf (.sub z true false false) [.hs b z o m, .int q l]) k t = Req (0 < z ∧ 0 ≤ l ∧ l ≤ m) (k (.hs b z (o + l.toNat) (m - l.toNat))) := by
  unfold WK
  simp only [pf, optI, Option.bind_some]
  rw [W_ite, W_some]
  simp
theorem pf_subH_ft {t : Tag k} {b z o m : Nat} {q : IntKind} {h : Int} : WK (pf (.sub z false true false) [.hs b z o m, .int q h]) k t = Req (0 < z ∧ 0 ≤ h ∧ h ≤ m) (k (.hs b z o h.toNat)) := by
  unfold WK
  simp only [pf, optI, Option.bind_some]
  rw [W_ite, W_some]
  simp
theorem pf_build {t : Tag k} {zero : List V} {ps : List (Nat × Nat)} {xs : List V} : WK (pf (.build zero ps) xs) k t = WK (fillP zero ps xs) (fun cs => k (.agg cs)) ⟨⟩ := by
  unfold WK
  simp only [pf, W_map]
theorem pf_buildM {t : Tag k} {zero : List V} {ps : List (Nat × Nat)} {xs : List V} : WK (pf (.buildM zero ps) xs) k t = WK (fillPM zero ps xs) (fun cs => k (.agg cs)) ⟨⟩ := by
  unfold WK
  simp only [pf, W_map]
theorem fillPM_nil {cs : List V} {k : List V → Prop} {t : Tag k} : WK (fillPM cs [] []) k t = k cs := nr rfl
theorem fillPM_cons {cs : List V} {o z : Nat} {ps : List (Nat × Nat)} {x : V} {xs : List V} {k : List V → Prop} {t : Tag k} : WK (fillPM cs ((o, z) :: ps) (x :: xs)) k t = Req (x.cells.length = z ∧ o + z ≤ cs.length ∧ solid x = true) (WK (fillPM (cs.take o ++ x.cells ++ cs.drop (o + z)) ps xs) k t) := by
  unfold WK
  simp only [fillPM]; rw [W_ite]
theorem fillP_nil {cs : List V} {k : List V → Prop} {t : Tag k} : WK (fillP cs [] []) k t = k cs := nr rfl
theorem fillP_cons {cs : List V} {o z : Nat} {ps : List (Nat × Nat)} {x : V} {xs : List V} {k : List V → Prop} {t : Tag k} : WK (fillP cs ((o, z) :: ps) (x :: xs)) k t = Req (x.cells.length = z ∧ o + z ≤ cs.length ∧ solid x = true) (WK (fillP (cs.take o ++ x.cells.map clr1 ++ cs.drop (o + z)) ps xs) k t) := by
  unfold WK
  simp only [fillP]; rw [W_ite]
theorem pf_mkfn {t : Tag k} {f : FuncId} {xs : List V} : WK (pf (.mkfn f) xs) k t = k (.fn f xs) := nr rfl
theorem pf_mkif {t : Tag k} {u : TypeId} {x : V} : WK (pf (.mkif u) [x]) k t = k (.iface u x) := nr rfl
theorem eqL_nil : eqL [] [] [] = some true := nr rfl
theorem eqL_b {ks : List Nat} {a b : Bool} {x y : List V} : eqL (0 :: ks) (.bool a :: x) (.bool b :: y) = (eqL ks x y).map fun q => decide (a = b) && q := nr rfl
theorem eqL_i {ks : List Nat} {q : IntKind} {a b : Int} {x y : List V} : eqL (1 :: ks) (.int q a :: x) (.int q b :: y) = (eqL ks x y).map fun q => decide (a = b) && q := by simp [eqL, eq1]
theorem eqL_s {ks : List Nat} {a b : List UInt8} {x y : List V} : eqL (2 :: ks) (.str a :: x) (.str b :: y) = (eqL ks x y).map fun q => decide (a = b) && q := nr rfl
theorem part_n {cs : List V} {o : Nat} : part cs o none = cs[o]? := nr rfl
theorem part_s {cs : List V} {o m : Nat} : part cs o (some m) = if o + m ≤ cs.length then some (.agg ((cs.drop o).take m)) else none := nr rfl
theorem af_app {t : Tag k} {o o' : Bool} {z y : Nat} {l l' : List V} : WK (af (.app z y) [.sl o z l, .sl o' z l']) k t = Req (o = true ∧ (l.length + l'.length) * y ≤ 17592186044416 ∧ l.length + l'.length ≤ 17592186044416) (k (.sl true z (l ++ l'))) := by
  unfold WK
  simp only [af, true_and]; rw [W_ite]; rfl
theorem af_apps {t : Tag k} {o : Bool} {l : List V} {s : List UInt8} : WK (af .apps [.sl o 1 l, .str s]) k t = Req (o = true ∧ l.length + s.length ≤ 17592186044416) (k (.sl true 1 (l ++ s.map byteV))) := by
  unfold WK
  simp only [af, true_and]; rw [W_ite]; rfl
theorem af_s2b {t : Tag k} {s : List UInt8} : WK (af .s2b [.str s]) k t = Req (s.length ≤ 17592186044416) (k (.sl true 1 (s.map byteV))) := by
  unfold WK
  simp only [af]; rw [W_ite]; rfl
theorem af_mk {t : Tag k} {z y : Nat} {zero : V} {q q' : IntKind} {m c : Int} : WK (af (.mkslice z y zero) [.int q m, .int q' c]) k t = Req (0 ≤ m ∧ m ≤ c ∧ c.toNat * y ≤ 17592186044416 ∧ c ≤ 17592186044416 ∧ zero.cells.length = z ∧ noH2 zero = true) (k (.sl true z (List.replicate m.toNat zero))) := by
  unfold WK
  simp only [af]; rw [W_ite]; rfl
theorem af_bs {t : Tag k} {z m : Nat} {zero : List V} {ps : List Nat} {xs : List V} : WK (af (.bslice z m zero ps) xs) k t = Req (m * z ≤ 16777216 ∧ zero.length = z ∧ zero.all noH1 = true) (WK (fillE (List.replicate m (ofCells z zero)) z ps xs) (fun l => k (.sl true z l)) ⟨⟩) := by
  unfold WK
  simp only [af]; rw [W_ite, W_map]
theorem fillE_nil {l : List V} {z : Nat} {k : List V → Prop} {t : Tag k} : WK (fillE l z [] []) k t = k l := nr rfl
theorem fillE_cons {l : List V} {z i : Nat} {ps : List Nat} {x : V} {xs : List V} {k : List V → Prop} {t : Tag k} : WK (fillE l z (i :: ps) (x :: xs)) k t = Req (x.cells.length = z ∧ i < l.length ∧ noH2 x = true) (WK (fillE (l.set i (clr2 x)) z ps xs) k t) := by
  unfold WK
  simp only [fillE]; rw [W_ite]
theorem clr_junk : clr .junk = .junk := nr rfl
theorem clr1_junk : clr1 .junk = .junk := nr rfl
theorem clr2_junk : clr2 .junk = .junk := nr rfl
theorem cells_junk : V.cells .junk = [.junk] := nr rfl
theorem solid_junk : solid .junk = false := nr rfl
theorem okCell_junk : okCell .junk = false := nr rfl
theorem clr_bool {b : Bool} : clr (.bool b) = (.bool b) := nr rfl
theorem clr1_bool {b : Bool} : clr1 (.bool b) = (.bool b) := nr rfl
theorem clr2_bool {b : Bool} : clr2 (.bool b) = (.bool b) := nr rfl
theorem cells_bool {b : Bool} : V.cells (.bool b) = [(.bool b)] := nr rfl
theorem solid_bool {b : Bool} : solid (.bool b) = true := nr rfl
theorem okCell_bool {b : Bool} : okCell (.bool b) = true := nr rfl
theorem clr_int {q : IntKind} {a : Int} : clr (.int q a) = (.int q a) := nr rfl
theorem clr1_int {q : IntKind} {a : Int} : clr1 (.int q a) = (.int q a) := nr rfl
theorem clr2_int {q : IntKind} {a : Int} : clr2 (.int q a) = (.int q a) := nr rfl
theorem cells_int {q : IntKind} {a : Int} : V.cells (.int q a) = [(.int q a)] := nr rfl
theorem solid_int {q : IntKind} {a : Int} : solid (.int q a) = true := nr rfl
theorem okCell_int {q : IntKind} {a : Int} : okCell (.int q a) = true := nr rfl
theorem clr_str {s : List UInt8} : clr (.str s) = (.str s) := nr rfl
theorem clr1_str {s : List UInt8} : clr1 (.str s) = (.str s) := nr rfl
theorem clr2_str {s : List UInt8} : clr2 (.str s) = (.str s) := nr rfl
theorem cells_str {s : List UInt8} : V.cells (.str s) = [(.str s)] := nr rfl
theorem solid_str {s : List UInt8} : solid (.str s) = true := nr rfl
theorem okCell_str {s : List UInt8} : okCell (.str s) = true := nr rfl
theorem clr_nilp : clr .nilp = .nilp := nr rfl
theorem clr1_nilp : clr1 .nilp = .nilp := nr rfl
theorem clr2_nilp : clr2 .nilp = .nilp := nr rfl
theorem cells_nilp : V.cells .nilp = [.nilp] := nr rfl
theorem solid_nilp : solid .nilp = true := nr rfl
theorem okCell_nilp : okCell .nilp = true := nr rfl
theorem clr_ptr {b z i o : Nat} : clr (.ptr b z i o) = (.ptr b z i o) := nr rfl
theorem clr1_ptr {b z i o : Nat} : clr1 (.ptr b z i o) = (.ptr b z i o) := nr rfl
theorem clr2_ptr {b z i o : Nat} : clr2 (.ptr b z i o) = (.ptr b z i o) := nr rfl
theorem cells_ptr {b z i o : Nat} : V.cells (.ptr b z i o) = [(.ptr b z i o)] := nr rfl
theorem solid_ptr {b z i o : Nat} : solid (.ptr b z i o) = true := nr rfl
theorem okCell_ptr {b z i o : Nat} : okCell (.ptr b z i o) = true := nr rfl
theorem clr_fptr {cs : List V} {o : Nat} : clr (.fptr cs o) = (.fptr cs o) := nr rfl
theorem clr1_fptr {cs : List V} {o : Nat} : clr1 (.fptr cs o) = (.fptr cs o) := nr rfl
theorem clr2_fptr {cs : List V} {o : Nat} : clr2 (.fptr cs o) = (.fptr cs o) := nr rfl
theorem cells_fptr {cs : List V} {o : Nat} : V.cells (.fptr cs o) = [(.fptr cs o)] := nr rfl
theorem solid_fptr {cs : List V} {o : Nat} : solid (.fptr cs o) = true := nr rfl
theorem okCell_fptr {cs : List V} {o : Nat} : okCell (.fptr cs o) = true := nr rfl
theorem clr_hs {b z o m : Nat} : clr (.hs b z o m) = (.hs b z o m) := nr rfl
theorem clr1_hs {b z o m : Nat} : clr1 (.hs b z o m) = (.hs b z o m) := nr rfl
theorem clr2_hs {b z o m : Nat} : clr2 (.hs b z o m) = (.hs b z o m) := nr rfl
theorem cells_hs {b z o m : Nat} : V.cells (.hs b z o m) = [(.hs b z o m)] := nr rfl
theorem solid_hs {b z o m : Nat} : solid (.hs b z o m) = true := nr rfl
theorem okCell_hs {b z o m : Nat} : okCell (.hs b z o m) = true := nr rfl
theorem clr_nilm : clr .nilm = .nilm := nr rfl
theorem clr1_nilm : clr1 .nilm = .nilm := nr rfl
theorem clr2_nilm : clr2 .nilm = .nilm := nr rfl
theorem cells_nilm : V.cells .nilm = [.nilm] := nr rfl
theorem solid_nilm : solid .nilm = true := nr rfl
theorem okCell_nilm : okCell .nilm = true := nr rfl
theorem clr_hm {b : Nat} : clr (.hm b) = (.hm b) := nr rfl
theorem clr1_hm {b : Nat} : clr1 (.hm b) = (.hm b) := nr rfl
theorem clr2_hm {b : Nat} : clr2 (.hm b) = (.hm b) := nr rfl
theorem cells_hm {b : Nat} : V.cells (.hm b) = [(.hm b)] := nr rfl
theorem solid_hm {b : Nat} : solid (.hm b) = true := nr rfl
theorem okCell_hm {b : Nat} : okCell (.hm b) = true := nr rfl
theorem clr_fn {f : FuncId} {cs : List V} : clr (.fn f cs) = (.fn f cs) := nr rfl
theorem clr1_fn {f : FuncId} {cs : List V} : clr1 (.fn f cs) = (.fn f cs) := nr rfl
theorem clr2_fn {f : FuncId} {cs : List V} : clr2 (.fn f cs) = (.fn f cs) := nr rfl
theorem cells_fn {f : FuncId} {cs : List V} : V.cells (.fn f cs) = [(.fn f cs)] := nr rfl
theorem solid_fn {f : FuncId} {cs : List V} : solid (.fn f cs) = true := nr rfl
theorem okCell_fn {f : FuncId} {cs : List V} : okCell (.fn f cs) = true := nr rfl
theorem clr_nilf : clr .nilf = .nilf := nr rfl
theorem clr1_nilf : clr1 .nilf = .nilf := nr rfl
theorem clr2_nilf : clr2 .nilf = .nilf := nr rfl
theorem cells_nilf : V.cells .nilf = [.nilf] := nr rfl
theorem solid_nilf : solid .nilf = true := nr rfl
theorem okCell_nilf : okCell .nilf = true := nr rfl
theorem clr_iface {t : TypeId} {x : V} : clr (.iface t x) = (.iface t x) := nr rfl
theorem clr1_iface {t : TypeId} {x : V} : clr1 (.iface t x) = (.iface t x) := nr rfl
theorem clr2_iface {t : TypeId} {x : V} : clr2 (.iface t x) = (.iface t x) := nr rfl
theorem cells_iface {t : TypeId} {x : V} : V.cells (.iface t x) = [(.iface t x)] := nr rfl
theorem solid_iface {t : TypeId} {x : V} : solid (.iface t x) = true := nr rfl
theorem okCell_iface {t : TypeId} {x : V} : okCell (.iface t x) = true := nr rfl
theorem clr_nili : clr .nili = .nili := nr rfl
theorem clr1_nili : clr1 .nili = .nili := nr rfl
theorem clr2_nili : clr2 .nili = .nili := nr rfl
theorem cells_nili : V.cells .nili = [.nili] := nr rfl
theorem solid_nili : solid .nili = true := nr rfl
theorem okCell_nili : okCell .nili = true := nr rfl
theorem noH1_bool {b : Bool} : noH1 (.bool b) = true := nr rfl
theorem noH1_int {q : IntKind} {a : Int} : noH1 (.int q a) = true := nr rfl
theorem noH1_str {s : List UInt8} : noH1 (.str s) = true := nr rfl
theorem noH1_nilp : noH1 .nilp = true := nr rfl
theorem noH1_fptr {cs : List V} {o : Nat} : noH1 (.fptr cs o) = true := nr rfl
theorem noH1_nilm : noH1 .nilm = true := nr rfl
theorem noH1_nilf : noH1 .nilf = true := nr rfl
theorem noH1_nili : noH1 .nili = true := nr rfl
theorem clr_raw {m : Nat} : clr (.raw m) = .junk := nr rfl
theorem af_raw {t : Tag k} {m : Nat} : WK (af (.raw m) []) k t = k (.raw m) := nr rfl
theorem noH1_sl {o : Bool} {z : Nat} {l : List V} : noH1 (.sl o z l) = true := nr rfl
theorem ofC1 {x : V} : ofCells 1 [x] = x := nr rfl
theorem ofC2 {z : Nat} {x y : V} {l : List V} : ofCells z (x :: y :: l) = if z = 1 then x else .agg (x :: y :: l) := nr rfl
theorem z_rep1 {a : V} : List.replicate 1 a = [a] := nr rfl
theorem z_rep2 {a : V} : List.replicate 2 a = [a, a] := nr rfl
theorem z_rep3 {a : V} : List.replicate 3 a = [a, a, a] := nr rfl
theorem z_rep4 {a : V} : List.replicate 4 a = [a, a, a, a] := nr rfl
theorem z_rep5 {a : V} : List.replicate 5 a = [a, a, a, a, a] := nr rfl
theorem z_rep6 {a : V} : List.replicate 6 a = [a, a, a, a, a, a] := nr rfl
theorem z_rep7 {a : V} : List.replicate 7 a = [a, a, a, a, a, a, a] := nr rfl
theorem z_rep8 {a : V} : List.replicate 8 a = [a, a, a, a, a, a, a, a] := nr rfl
theorem z_rep9 {a : V} : List.replicate 9 a = [a, a, a, a, a, a, a, a, a] := nr rfl
theorem z_rep10 {a : V} : List.replicate 10 a = [a, a, a, a, a, a, a, a, a, a] := nr rfl
theorem z_rep11 {a : V} : List.replicate 11 a = [a, a, a, a, a, a, a, a, a, a, a] := nr rfl
theorem z_rep12 {a : V} : List.replicate 12 a = [a, a, a, a, a, a, a, a, a, a, a, a] := nr rfl
theorem clr_sl {o : Bool} {z : Nat} {l : List V} : clr (.sl o z l) = .sl false z l := nr rfl
theorem clr1_sl {o : Bool} {z : Nat} {l : List V} : clr1 (.sl o z l) = .sl false z l := nr rfl
theorem clr2_sl {o : Bool} {z : Nat} {l : List V} : clr2 (.sl o z l) = .sl false z l := nr rfl
theorem cells_sl {o : Bool} {z : Nat} {l : List V} : V.cells (.sl o z l) = [.sl o z l] := nr rfl
theorem solid_sl {o : Bool} {z : Nat} {l : List V} : solid (.sl o z l) = true := nr rfl
theorem okCell_sl {o : Bool} {z : Nat} {l : List V} : okCell (.sl o z l) = true := nr rfl
theorem clr_agg {cs : List V} : clr (.agg cs) = .agg (cs.map clr1) := nr rfl
theorem clr2_agg {cs : List V} : clr2 (.agg cs) = .agg (cs.map clr1) := nr rfl
theorem clr_tup {cs : List V} : clr (.tup cs) = .tup (cs.map clr2) := nr rfl
theorem cells_agg {cs : List V} : V.cells (.agg cs) = cs := nr rfl
theorem solid_agg {cs : List V} : solid (.agg cs) = true := nr rfl
theorem okCell_agg {cs : List V} : okCell (.agg cs) = false := nr rfl
theorem cells_tup {cs : List V} : V.cells (.tup cs) = [.tup cs] := nr rfl
theorem pick_t {a b : V} : pickV true a b = clr a := nr rfl
theorem pick_f {a b : V} : pickV false a b = clr b := nr rfl
theorem pick_bb {c x y : Bool} : pickV c (.bool x) (.bool y) = .bool (if c then x else y) := by cases c <;> rfl
theorem z_ift {α : Type} {a b : α} : (if True then a else b) = a := by simp
theorem z_iff {α : Type} {a b : α} : (if False then a else b) = b := by simp
theorem z_iftP {a b : Prop} : (if True then a else b) = a := by simp
theorem z_iffP {a b : Prop} : (if False then a else b) = b := by simp
theorem z_iftB {α : Type} {a b : α} : (if true = true then a else b) = a := by simp
theorem z_iffB {α : Type} {a b : α} : (if false = true then a else b) = b := by simp
theorem z_eqN {a : Nat} : (a = a) = True := by simp
theorem z_eqI {a : Int} : (a = a) = True := by simp
theorem z_eqV {a : V} : (a = a) = True := by simp
theorem z_eqB {a : Bool} : (a = a) = True := by simp
theorem z_eqL {a : List UInt8} : (a = a) = True := by simp
theorem z_tand {a : Prop} : (True ∧ a) = a := by simp
theorem z_andt {a : Prop} : (a ∧ True) = a := by simp
theorem z_fand {a : Prop} : (False ∧ a) = False := by simp
theorem z_andf {a : Prop} : (a ∧ False) = False := by simp
theorem z_nt : (¬True) = False := by simp
theorem z_nf : (¬False) = True := by simp
theorem z_neq {α : Type} {a b : α} : (a ≠ b) = ¬(a = b) := nr rfl
theorem z_ff : (false = true) = False := by simp
theorem z_dt : decide True = true := by simp
theorem z_df : decide False = false := by simp
theorem z_dnot {p : Prop} [Decidable p] : decide (¬p) = !decide p := by simp
theorem z_bnt : (!true) = false := nr rfl
theorem z_bnf : (!false) = true := nr rfl
theorem z_bnn {b : Bool} : (!!b) = b := by simp
theorem z_bat {b : Bool} : (b && true) = b := by simp
theorem z_bta {b : Bool} : (true && b) = b := by simp
theorem z_bfa {b : Bool} : (false && b) = false := by simp
theorem z_baf {b : Bool} : (b && false) = false := by simp
theorem z_tn {m : Nat} : Int.toNat (m : Int) = m := by simp
theorem z_tn1 {m c : Nat} : Int.toNat ((m : Int) + (c : Int)) = m + c := by omega
theorem z_tn2 {m : Nat} : Int.toNat ((m : Int) + 1) = m + 1 := by omega
theorem z_na {m : Nat} : 0 + m = m := by simp
theorem z_an {m : Nat} : m + 0 = m := nr rfl
theorem z_mz {m : Nat} : 0 * m = 0 := by simp
theorem z_zm {m : Nat} : m * 0 = 0 := nr rfl
theorem z_le {m : Nat} : (m ≤ m) = True := by simp
theorem z_leI {m : Int} : (m ≤ m) = True := by simp
theorem z_0le {m : Nat} : ((0 : Int) ≤ (m : Int)) = True := by simp
theorem z_0leN {m : Nat} : (0 ≤ m) = True := by simp
theorem z_mapc {α : Type} {f : α → V} {a : α} {l : List α} : (a :: l).map f = f a :: l.map f := nr rfl
theorem z_mapn {α : Type} {f : α → V} : ([] : List α).map f = [] := nr rfl
theorem z_lenc {a : V} {l : List V} : (a :: l).length = l.length + 1 := nr rfl
theorem z_lenn : ([] : List V).length = 0 := nr rfl
theorem z_lenm {α : Type} {f : α → V} {l : List α} : (l.map f).length = l.length := by simp
theorem z_lenr {m : Nat} {a : V} : (List.replicate m a).length = m := by simp
theorem z_lenu : ([] : List UInt8).length = 0 := nr rfl
theorem z_lenuc {a : UInt8} {l : List UInt8} : (a :: l).length = l.length + 1 := nr rfl
theorem z_getz {a : V} {l : List V} : (a :: l)[0]? = some a := nr rfl
theorem z_gets {a : V} {l : List V} {m : Nat} : (a :: l)[m + 1]? = l[m]? := nr rfl
theorem z_getm {α : Type} {f : α → V} {l : List α} {m : Nat} : (l.map f)[m]? = l[m]?.map f := by simp
theorem z_setz {a b : V} {l : List V} : (a :: l).set 0 b = b :: l := nr rfl
theorem z_sets {a b : V} {l : List V} {m : Nat} : (a :: l).set (m + 1) b = a :: l.set m b := nr rfl
theorem z_allc {f : V → Bool} {a : V} {l : List V} : (a :: l).all f = (f a && l.all f) := nr rfl
theorem z_alln {f : V → Bool} : ([] : List V).all f = true := nr rfl
theorem z_tkz {l : List V} : l.take 0 = [] := nr rfl
theorem z_tks {a : V} {l : List V} {m : Nat} : (a :: l).take (m + 1) = a :: l.take m := nr rfl
theorem z_tkn {m : Nat} : ([] : List V).take m = [] := by simp
theorem z_drz {l : List V} : l.drop 0 = l := nr rfl
theorem z_drs {a : V} {l : List V} {m : Nat} : (a :: l).drop (m + 1) = l.drop m := nr rfl
theorem z_drn {m : Nat} : ([] : List V).drop m = [] := by simp
theorem z_apn {l : List V} : [] ++ l = l := nr rfl
theorem z_apc {a : V} {l l' : List V} : (a :: l) ++ l' = a :: (l ++ l') := nr rfl
theorem z_nap {l : List V} : l ++ [] = l := by simp
theorem z_drm {α : Type} {f : α → V} {l : List α} {m : Nat} : (l.map f).drop m = (l.drop m).map f := by simp
theorem z_tkm {α : Type} {f : α → V} {l : List α} {m : Nat} : (l.map f).take m = (l.take m).map f := by simp
theorem z_repz {a : V} : List.replicate 0 a = [] := nr rfl
theorem hf_boxH {h : Heap} {n : Nat} {k : V × Heap × Nat → Prop} {t : Tag k} {y : V} : WK (hf .boxH [y] h n) k t = Req (solid y = true ∧ y.cells.all okCell = true) (k (.ptr n y.cells.length 0 0, set h n (.rows y.cells.length [.agg y.cells]), 1)) := by
  unfold WK
  simp only [hf]; rw [W_ite]; rfl
theorem hf_alloc {h : Heap} {n : Nat} {k : V × Heap × Nat → Prop} {t : Tag k} {z : List V} : WK (hf (.allocH z) [] h n) k t = Req (z.all okCell = true) (k (.ptr n z.length 0 0, set h n (.rows z.length [.agg z]), 1)) := by
  unfold WK
  simp only [hf]; rw [W_ite]; rfl
theorem hf_allocB {h : Heap} {n : Nat} {k : V × Heap × Nat → Prop} {t : Tag k} {T e : Nat} : WK (hf (.allocB T e) [] h n) k t = k (.ptr n 2 0 0, set h n (.bld T e []), 1) := nr rfl
theorem hf_load {h : Heap} {n : Nat} {k : V × Heap × Nat → Prop} {t : Tag k} {m : Option Nat} {b z i o : Nat} : WK (hf (.loadH m) [.ptr b z i o] h n) k t = WK (get h b) (fun blk => ldB blk z i o m fun y => k (clr y, h, 0)) ⟨⟩ := by
  unfold WK
  simp only [hf]
  cases get h b with
  | none => rfl
  | some blk =>
    cases blk with
    | bld T e s => rfl
    | map es => rfl
    | rows z' l =>
      simp only [ldB, WK]
      rw [W_ite, W_bind, W_some]
      simp only [W_map]
theorem hf_store {h : Heap} {n : Nat} {k : V × Heap × Nat → Prop} {t : Tag k} {m b z i o : Nat} {y : V} : WK (hf (.storeH m) [.ptr b z i o, y] h n) k t = WK (get h b) (fun blk => stB blk z i o m y fun l => k (.junk, set h b (.rows z l), 0)) ⟨⟩ := by
  unfold WK
  simp only [hf]
  cases get h b with
  | none => rfl
  | some blk =>
    cases blk with
    | bld T e s => rfl
    | map es => rfl
    | rows z' l =>
      simp only [stB, WK]
      rw [W_ite, W_map, W_some]
theorem hf_mkMap {h : Heap} {n : Nat} {k : V × Heap × Nat → Prop} {t : Tag k} : WK (hf .mkMap [] h n) k t = k (.hm n, set h n (.map []), 1) := nr rfl
theorem hf_lookN {h : Heap} {n : Nat} {k : V × Heap × Nat → Prop} {t : Tag k} {z y : V} {ok ag : Bool} {ks : List Nat} : WK (hf (.look z ok ag ks) [.nilm, y] h n) k t = k (outQ ok z none, h, 0) := nr rfl
theorem hf_look {h : Heap} {n : Nat} {k : V × Heap × Nat → Prop} {t : Tag k} {z y : V} {ok ag : Bool} {ks : List Nat} {b : Nat} : WK (hf (.look z ok ag ks) [.hm b, y] h n) k t = WK (get h b) (fun blk => mpB blk fun es => WK (findK ag ks y es 0) (fun q => k (outQ ok z q, h, 0)) ⟨⟩) ⟨⟩ := by
  unfold WK
  simp only [hf]
  cases get h b with
  | none => rfl
  | some blk =>
    cases blk with
    | bld T e s => rfl
    | rows z' l => rfl
    | map es =>
      simp only [mpB, WK]
      rw [W_map, W_some]
      rfl
theorem hf_upd {h : Heap} {n : Nat} {k : V × Heap × Nat → Prop} {t : Tag k} {y v : V} {ag : Bool} {ks : List Nat} {b : Nat} : WK (hf (.upd ag ks) [.hm b, y, v] h n) k t = WK (get h b) (fun blk => mpB blk fun es => Req (noH2 y = true ∧ solid v = true) (WK (findK ag ks y es 0) (fun q => k (.junk, set h b (.map (updQ es y v q)), 0)) ⟨⟩)) ⟨⟩ := by
  unfold WK
  simp only [hf]
  cases get h b with
  | none => rfl
  | some blk =>
    cases blk with
    | bld T e s => rfl
    | rows z' l => rfl
    | map es =>
      simp only [mpB, WK]
      rw [W_ite, W_map, W_some]
      rfl
theorem hf_take {h : Heap} {n : Nat} {k : V × Heap × Nat → Prop} {t : Tag k} {b z i o : Nat} : WK (hf .takeH [.ptr b z i o] h n) k t = WK (get h b) (fun blk => tkB blk z i o fun c l => k (c, set h b (.rows z l), 0)) ⟨⟩ := by
  unfold WK
  simp only [hf]
  cases get h b with
  | none => rfl
  | some blk =>
    cases blk with
    | bld T e s => rfl
    | map es => rfl
    | rows z' l =>
      simp only [tkB, WK]
      rw [W_ite, W_bind, W_some]
      simp only [W_bind, W_ite, W_some]
theorem hf_mkH {h : Heap} {n : Nat} {k : V × Heap × Nat → Prop} {t : Tag k} {z y : Nat} {zero : V} {q q' : IntKind} {m c : Int} : WK (hf (.mkH z y zero) [.int q m, .int q' c] h n) k t = Req (0 ≤ m ∧ m ≤ c ∧ c.toNat * y ≤ 17592186044416 ∧ c ≤ 17592186044416 ∧ zero.cells.length = z ∧ zero.cells.all okCell = true) (k (.hs n z 0 m.toNat, set h n (.rows z (List.replicate m.toNat (clr2 zero))), 1)) := by
  unfold WK
  simp only [hf]; rw [W_ite]; rfl
theorem hf_appL {h : Heap} {n : Nat} {k : V × Heap × Nat → Prop} {t : Tag k} {sz y b z o m z' : Nat} {w : Bool} {l : List V} : WK (hf (.appH sz y) [.hs b z o m, .sl w z' l] h n) k t = Req (z' = sz ∨ l.length = 0) (WK (appB sz y b z o m l h n) k t) := by
  unfold WK
  simp only [hf]; rw [W_ite]
theorem hf_bsM {h : Heap} {n : Nat} {k : V × Heap × Nat → Prop} {t : Tag k} {z : Nat} {x : V} : WK (hf (.bsliceM z) [x] h n) k t = Req ((get h n).isNone = true ∧ x.cells.length = z ∧ 0 < z ∧ z ≤ 16777216 ∧ solid x = true ∧ x.cells.all okCell = true) (k (.hs n z 0 1, set h n (.rows z [x]), 1)) := by
  unfold WK
  simp only [hf]; rw [W_ite]; rfl
theorem hf_bsH {h : Heap} {n : Nat} {k : V × Heap × Nat → Prop} {t : Tag k} {z m : Nat} {zero : List V} {ps : List Nat} {xs : List V} : WK (hf (.bsliceH z m zero ps) xs h n) k t = Req (0 < z ∧ m * z ≤ 16777216 ∧ zero.length = z ∧ zero.all noH1 = true) (WK (fillH (List.replicate m (ofCells z zero)) z ps xs) (fun l => k (.hs n z 0 m, set h n (.rows z l), 1)) ⟨⟩) := by
  unfold WK
  simp only [hf]; rw [W_ite, W_map]
theorem fillH_nil {l : List V} {z : Nat} {k : List V → Prop} {t : Tag k} : WK (fillH l z [] []) k t = k l := nr rfl
theorem fillH_cons {l : List V} {z i : Nat} {ps : List Nat} {x : V} {xs : List V} {k : List V → Prop} {t : Tag k} : WK (fillH l z (i :: ps) (x :: xs)) k t = Req (x.cells.length = z ∧ i < l.length ∧ solid x = true ∧ x.cells.all okCell = true) (WK (fillH (l.set i (clr2 x)) z ps xs) k t) := by
  unfold WK
  simp only [fillH]; rw [W_ite]
theorem hf_frz {h : Heap} {n : Nat} {k : V × Heap × Nat → Prop} {t : Tag k} {z b o m : Nat} : WK (hf (.frz z) [.hs b z o m] h n) k t = frB h b z o m k := nr rfl
theorem hf_lenM {h : Heap} {n : Nat} {k : V × Heap × Nat → Prop} {t : Tag k} {b : Nat} : WK (hf .lenM [.hm b] h n) k t = WK (get h b) (fun blk => mpB blk fun es => k (.int .i64 es.length, h, 0)) ⟨⟩ := by
  unfold WK
  simp only [hf]
  cases get h b with
  | none => rfl
  | some blk => cases blk <;> rfl
theorem hf_lookT {h : Heap} {n : Nat} {k : V × Heap × Nat → Prop} {t : Tag k} {z y : V} {ag : Bool} {ks : List Nat} {b : Nat} : WK (hf (.lookT z ag ks) [.hm b, y] h n) k t = WK (get h b) (fun blk => mpB blk fun es => Req (noH2 y = true) (WK (findK ag ks y es 0) (fun q => lkT z y es q b h k) ⟨⟩)) ⟨⟩ := by
  unfold WK
  simp only [hf]
  cases get h b with
  | none => rfl
  | some blk =>
    cases blk with
    | bld T e s => rfl
    | rows z' l => rfl
    | map es =>
      simp only [mpB, WK]
      rw [W_ite, W_map, W_some]
      congr 1
      cases findK ag ks y es 0 with
      | none => rfl
      | some q => cases q <;> rfl
theorem hf_clear {h : Heap} {n : Nat} {k : V × Heap × Nat → Prop} {t : Tag k} {sz : Nat} {zero : V} {b z o m : Nat} : WK (hf (.clearH sz zero) [.hs b z o m] h n) k t = Req (z = sz) (WK (get h b) (fun blk => clB blk sz o m zero fun l => k (.tup [], set h b (.rows sz l), 0)) ⟨⟩) := by
  unfold WK
  simp only [hf]
  rw [W_ite]
  cases get h b with
  | none => rfl
  | some blk =>
    cases blk with
    | bld T e s => rfl
    | map es => rfl
    | rows z' l =>
      simp only [clB, WK]
      rw [W_ite, W_some, W_some]
theorem clB_rows {z' sz o m : Nat} {l : List V} {zero : V} {k : List V → Prop} : clB (.rows z' l) sz o m zero k = Req (z' = sz ∧ o + m ≤ l.length ∧ zero.cells.length = sz ∧ noH2 zero = true ∧ zero.cells.all okCell = true) (k (l.take o ++ List.replicate m (clr2 zero) ++ l.drop (o + m))) := nr rfl
theorem tkB_rows {z' : Nat} {l : List V} {z i o : Nat} {k : V → List V → Prop} : tkB (.rows z' l) z i o k = Req (z = z') (WK l[i]? (fun row => WK row.cells[o]? (fun c => Req (okCell c = true) (k c (l.set i (reRow row (row.cells.take o ++ [clr1 c] ++ row.cells.drop (o + 1)))))) ⟨⟩) ⟨⟩) := nr rfl
theorem ldB_rows {z' : Nat} {l : List V} {z i o : Nat} {m : Option Nat} {k : V → Prop} : ldB (.rows z' l) z i o m k = Req (z = z') (WK l[i]? (fun row => WK (part row.cells o m) k ⟨⟩) ⟨⟩) := nr rfl
theorem stB_rows {z' : Nat} {l : List V} {z i o m : Nat} {y : V} {k : List V → Prop} : stB (.rows z' l) z i o m y k = Req (z = z' ∧ y.cells.length = m ∧ o + m ≤ z ∧ solid y = true ∧ y.cells.all okCell = true) (WK l[i]? (fun row => k (l.set i (reRow row (row.cells.take o ++ y.cells ++ row.cells.drop (o + m))))) ⟨⟩) := nr rfl
theorem mpB_map {es : List (V × V)} {k : List (V × V) → Prop} : mpB (.map es) k = k es := nr rfl
theorem outQ_n {ok : Bool} {z : V} : outQ ok z none = if ok = true then .tup [clr2 z, .bool false] else clr2 z := nr rfl
theorem outQ_s {ok : Bool} {z v : V} {i : Nat} : outQ ok z (some (i, v)) = if ok = true then .tup [clr2 v, .bool true] else clr2 v := nr rfl
theorem updQ_n {es : List (V × V)} {y v : V} : updQ es y v none = es ++ [(clr2 y, v)] := nr rfl
theorem updQ_s {es : List (V × V)} {y v v' : V} {i : Nat} : updQ es y v (some (i, v')) = es.set i (y, v) := nr rfl
theorem reRow_a {cs cs' : List V} : reRow (.agg cs) cs' = .agg cs' := nr rfl
theorem reRow_i {q : IntKind} {m : Int} {c : V} : reRow (.int q m) [c] = c := nr rfl
theorem reRow_b {b : Bool} {c : V} : reRow (.bool b) [c] = c := nr rfl
theorem reRow_s {s : List UInt8} {c : V} : reRow (.str s) [c] = c := nr rfl
theorem noH2_agg {cs : List V} : noH2 (.agg cs) = cs.all noH1 := nr rfl
theorem noH2_sl {o : Bool} {z : Nat} {l : List V} : noH2 (.sl o z l) = true := nr rfl
theorem reRow_hs {b z o m : Nat} {c : V} : reRow (.hs b z o m) [c] = c := nr rfl
theorem reRow_sl {o : Bool} {z : Nat} {l : List V} {c : V} : reRow (.sl o z l) [c] = c := nr rfl
theorem noH2_str {s : List UInt8} : noH2 (.str s) = true := nr rfl
theorem noH2_int {q : IntKind} {m : Int} : noH2 (.int q m) = true := nr rfl
theorem noH2_bool {b : Bool} : noH2 (.bool b) = true := nr rfl
theorem getJ_cons {a m : Nat} {x : V} {l : List (Nat × V)} : getJ ((a, x) :: l) m = if m = a then x else getJ l m := nr rfl
theorem set_nil {α : Type} {m : Nat} {x : α} : set ([] : List (Nat × α)) m x = [(m, x)] := nr rfl
theorem set_cons {α : Type} {a m : Nat} {x y : α} {l : List (Nat × α)} : set ((a, x) :: l) m y = if m < a then (m, y) :: (a, x) :: l else if m = a then (m, y) :: l else (a, x) :: set l m y := nr rfl
theorem get_cons {α : Type} {a m : Nat} {x : α} {l : List (Nat × α)} : get ((a, x) :: l) m = if m = a then some x else get l m := nr rfl
theorem keep_nil {α : Type} {ks : List Nat} : keep ks ([] : List (Nat × α)) = [] := nr rfl
theorem keep_cons {α : Type} {ks : List Nat} {a : Nat} {x : α} {l : List (Nat × α)} : keep ks ((a, x) :: l) = if hasN ks a = true then (a, x) :: keep ks l else keep ks l := by simp only [keep, List.filter_cons, hasN_eq]
theorem hasN_nil {a : Nat} : hasN [] a = false := nr rfl
theorem hasN_cons {a b : Nat} {l : List Nat} : hasN (b :: l) a = if a = b then true else hasN l a := nr rfl
theorem ev_t {env : List (Nat × V)} {m : Nat} : evE env (.t m) = clr (getJ env m) := nr rfl
theorem ev_m {env : List (Nat × V)} {m : Nat} : evE env (.m m) = getJ env m := nr rfl
theorem ev_c {env : List (Nat × V)} {x : V} : evE env (.c x) = x := nr rfl
theorem evs_nil {env : List (Nat × V)} : evsE env [] = [] := nr rfl
theorem evs_cons {env : List (Nat × V)} {x : Opd} {l : List Opd} : evsE env (x :: l) = evE env x :: evsE env l := nr rfl
theorem mv_nil {env e : List (Nat × V)} : mvE env [] e = e := nr rfl
theorem mv_t {env e : List (Nat × V)} {m : Nat} {l : List Opd} : mvE env (.t m :: l) e = mvE env l e := nr rfl
theorem mv_c {env e : List (Nat × V)} {x : V} {l : List Opd} : mvE env (.c x :: l) e = mvE env l e := nr rfl
theorem mv_m {env e : List (Nat × V)} {m : Nat} {l : List Opd} : mvE env (.m m :: l) e = mvE env l (mv1 e m (get env m)) := by simp only [mvE]; cases get env m <;> rfl
theorem mv1_some {e : List (Nat × V)} {m : Nat} {x : V} : mv1 e m (some x) = set e m (clr x) := nr rfl
theorem put_none {env : List (Nat × V)} {x : V} : putE env none x = env := nr rfl
theorem put_some {env : List (Nat × V)} {m : Nat} {x : V} : putE env (some m) x = set env m x := nr rfl
theorem lk_cons {a m : Nat} {x : V} {l : List (Nat × V)} : lk ((a, x) :: l) m = if m = a then x else lk l m := by simp only [lk, lkO]; split <;> rfl
theorem lkO_cons {a m : Nat} {x : V} {l : List (Nat × V)} : lkO ((a, x) :: l) m = if m = a then some x else lkO l m := nr rfl
theorem lkO_nil {m : Nat} : lkO [] m = none := nr rfl
theorem sel_nil {l : List (Nat × V)} : sel [] l = [] := nr rfl
theorem sel_cons {j : Nat} {ks : List Nat} {l : List (Nat × V)} : sel (j :: ks) l = selc j (lkO l j) (sel ks l) := nr rfl
theorem selc_some {j : Nat} {x : V} {l : List (Nat × V)} : selc j (some x) l = (j, x) :: l := nr rfl
theorem selc_none {j : Nat} {l : List (Nat × V)} : selc j none l = l := nr rfl
theorem put_cn {l : List (Nat × V)} {m : Nat} {x : V} : putE (cn l) (some m) x = cn ((m, x) :: l) := nr rfl
theorem mv1_cn {l : List (Nat × V)} {m : Nat} {x : V} : mv1 (cn l) m (some x) = cn ((m, clr x) :: l) := nr rfl
theorem init_nil {i : Nat} : initE i [] = [] := nr rfl
theorem init_cons {i : Nat} {x : V} {l : List V} : initE i (x :: l) = (i, x) :: initE (i + 1) l := nr rfl
end
theorem boxW_eq {y : V} {k : List V → Prop} : boxW y k = Req (solid y = true ∧ y.cells.all okCell = true) (k y.cells) := nr rfl
theorem exA : True := trivial
/-- All rules together. -/
theorem ex : type_of% (And.intro (And.intro (And.intro (And.intro (And.intro (And.intro (And.intro (And.intro @Req_true (And.intro @Req_and @ifB_true)) (And.intro @ifB_false (And.intro @ifB_not @WK_map))) (And.intro (And.intro @WK_bind (And.intro @WK_some @WK_none)) (And.intro (And.intro @WK_ite @tst_t) (And.intro @tst_f @tst_u)))) (And.intro (And.intro (And.intro @L_nil (And.intro @L_none @L_some)) (And.intro (And.intro @D_nil @D_none) (And.intro @D_some @P_p))) (And.intro (And.intro @P_a (And.intro @P_call @P_h)) (And.intro (And.intro @P_callH @P_extr) (And.intro @P_box @P_ldF))))) (And.intro (And.intro (And.intro (And.intro @P_ldT (And.intro @P_st @P_init)) (And.intro (And.intro @D_p @D_a) (And.intro @D_call @D_h))) (And.intro (And.intro @D_callH (And.intro @D_extr @D_box)) (And.intro (And.intro @D_ldF @D_ldT) (And.intro @D_st @D_init)))) (And.intro (And.intro (And.intro @exV_tup (And.intro @exW_bool @exW_int)) (And.intro (And.intro @exW_str @exW_agg) (And.intro @exW_sl @exW_nili))) (And.intro (And.intro @exW_nilp (And.intro @exW_nilm @exW_iface)) (And.intro (And.intro @exW_hm @exW_hs) (And.intro @inF_raw @ldF_ptr)))))) (And.intro (And.intro (And.intro (And.intro (And.intro @ldT_ptr (And.intro @stF_ptr @seqQ_n)) (And.intro @seqQ_x (And.intro @seqQ_r @cutQ_n))) (And.intro (And.intro @cutQ_x (And.intro @cutQ_r @blkQ_n)) (And.intro (And.intro @blkQ_x @blkQ_r) (And.intro @loopQ_n @loopQ_x)))) (And.intro (And.intro (And.intro @loopQ_r (And.intro @C_skip @C_ret)) (And.intro (And.intro @C_exit @C_reg) (And.intro @C_regD @C_seq))) (And.intro (And.intro @C_cut (And.intro @C_block @cndW_bool)) (And.intro (And.intro @C_cond @ldR_ptr) (And.intro @resE_nil @resE_t))))) (And.intro (And.intro (And.intro (And.intro @resE_cell (And.intro @endQ_n @endQ_r)) (And.intro (And.intro @outV_one @outV_two) (And.intro @pf_mv @pf_same))) (And.intro (And.intro @pf_pick (And.intro @pf_ar_add @pf_arw_add)) (And.intro (And.intro @pf_ar_sub @pf_arw_sub) (And.intro @pf_ar_mul @pf_arw_mul)))) (And.intro (And.intro (And.intro @pf_quo (And.intro @pf_rem @pf_bits)) (And.intro (And.intro @pf_sh @pf_cmp_eql) (And.intro @pf_cmp_neq @pf_cmp_lss))) (And.intro (And.intro @pf_cmp_leq (And.intro @pf_cmp_gtr @pf_cmp_geq)) (And.intro (And.intro @pf_scmp_eql @pf_scmp_neq) (And.intro @pf_scmp_lss @pf_scmp_leq))))))) (And.intro (And.intro (And.intro (And.intro (And.intro (And.intro @pf_scmp_gtr (And.intro @pf_scmp_geq @pf_sadd)) (And.intro @pf_eqB (And.intro @pf_neB @pf_eqA))) (And.intro (And.intro @pf_neA (And.intro @pf_not @pf_neg)) (And.intro (And.intro @pf_lenS @pf_lenL) (And.intro @pf_lenH @pf_min)))) (And.intro (And.intro (And.intro @pf_max (And.intro @pf_conv @pf_b2s)) (And.intro (And.intro @pf_sidx @pf_faddrP) (And.intro @pf_faddrF @pf_isnil))) (And.intro (And.intro @pf_isnilH (And.intro @pf_isniliN @pf_isniliI)) (And.intro (And.intro @pf_field @pf_iaddr) (And.intro @pf_iaddrH @pf_aaddrP))))) (And.intro (And.intro (And.intro (And.intro @pf_aaddrF (And.intro @pf_aidx @pf_loadF)) (And.intro (And.intro @pf_nckP @pf_nckF) (And.intro @pf_nckN @pf_ssub_ff))) (And.intro (And.intro @pf_ssub_tf (And.intro @pf_ssub_ft @pf_ssub_tt)) (And.intro (And.intro @pf_sub_ff @pf_sub_tf) (And.intro @pf_sub_ft @pf_sub_tt)))) (And.intro (And.intro (And.intro @pf_sub_ftt (And.intro @pf_sub_ttt @pf_subH_tf)) (And.intro (And.intro @pf_subH_ft @pf_build) (And.intro @pf_buildM @fillPM_nil))) (And.intro (And.intro @fillPM_cons (And.intro @fillP_nil @fillP_cons)) (And.intro (And.intro @pf_mkfn @pf_mkif) (And.intro @eqL_nil @eqL_b)))))) (And.intro (And.intro (And.intro (And.intro (And.intro @eqL_i (And.intro @eqL_s @part_n)) (And.intro (And.intro @part_s @af_app) (And.intro @af_apps @af_s2b))) (And.intro (And.intro @af_mk (And.intro @af_bs @fillE_nil)) (And.intro (And.intro @fillE_cons @clr_junk) (And.intro @clr1_junk @clr2_junk)))) (And.intro (And.intro (And.intro @cells_junk (And.intro @solid_junk @okCell_junk)) (And.intro (And.intro @clr_bool @clr1_bool) (And.intro @clr2_bool @cells_bool))) (And.intro (And.intro @solid_bool (And.intro @okCell_bool @clr_int)) (And.intro (And.intro @clr1_int @clr2_int) (And.intro @cells_int @solid_int))))) (And.intro (And.intro (And.intro (And.intro @okCell_int (And.intro @clr_str @clr1_str)) (And.intro (And.intro @clr2_str @cells_str) (And.intro @solid_str @okCell_str))) (And.intro (And.intro @clr_nilp (And.intro @clr1_nilp @clr2_nilp)) (And.intro (And.intro @cells_nilp @solid_nilp) (And.intro @okCell_nilp @clr_ptr)))) (And.intro (And.intro (And.intro @clr1_ptr (And.intro @clr2_ptr @cells_ptr)) (And.intro (And.intro @solid_ptr @okCell_ptr) (And.intro @clr_fptr @clr1_fptr))) (And.intro (And.intro @clr2_fptr (And.intro @cells_fptr @solid_fptr)) (And.intro (And.intro @okCell_fptr @clr_hs) (And.intro @clr1_hs @clr2_hs)))))))) (And.intro (And.intro (And.intro (And.intro (And.intro (And.intro (And.intro @cells_hs (And.intro @solid_hs @okCell_hs)) (And.intro @clr_nilm (And.intro @clr1_nilm @clr2_nilm))) (And.intro (And.intro @cells_nilm (And.intro @solid_nilm @okCell_nilm)) (And.intro (And.intro @clr_hm @clr1_hm) (And.intro @clr2_hm @cells_hm)))) (And.intro (And.intro (And.intro @solid_hm (And.intro @okCell_hm @clr_fn)) (And.intro (And.intro @clr1_fn @clr2_fn) (And.intro @cells_fn @solid_fn))) (And.intro (And.intro @okCell_fn (And.intro @clr_nilf @clr1_nilf)) (And.intro (And.intro @clr2_nilf @cells_nilf) (And.intro @solid_nilf @okCell_nilf))))) (And.intro (And.intro (And.intro (And.intro @clr_iface (And.intro @clr1_iface @clr2_iface)) (And.intro (And.intro @cells_iface @solid_iface) (And.intro @okCell_iface @clr_nili))) (And.intro (And.intro @clr1_nili (And.intro @clr2_nili @cells_nili)) (And.intro (And.intro @solid_nili @okCell_nili) (And.intro @noH1_bool @noH1_int)))) (And.intro (And.intro (And.intro @noH1_str (And.intro @noH1_nilp @noH1_fptr)) (And.intro (And.intro @noH1_nilm @noH1_nilf) (And.intro @noH1_nili @clr_raw))) (And.intro (And.intro @af_raw (And.intro @noH1_sl @ofC1)) (And.intro (And.intro @ofC2 @z_rep1) (And.intro @z_rep2 @z_rep3)))))) (And.intro (And.intro (And.intro (And.intro (And.intro @z_rep4 (And.intro @z_rep5 @z_rep6)) (And.intro @z_rep7 (And.intro @z_rep8 @z_rep9))) (And.intro (And.intro @z_rep10 (And.intro @z_rep11 @z_rep12)) (And.intro (And.intro @clr_sl @clr1_sl) (And.intro @clr2_sl @cells_sl)))) (And.intro (And.intro (And.intro @solid_sl (And.intro @okCell_sl @clr_agg)) (And.intro (And.intro @clr2_agg @clr_tup) (And.intro @cells_agg @solid_agg))) (And.intro (And.intro @okCell_agg (And.intro @cells_tup @pick_t)) (And.intro (And.intro @pick_f @pick_bb) (And.intro @z_ift @z_iff))))) (And.intro (And.intro (And.intro (And.intro @z_iftP (And.intro @z_iffP @z_iftB)) (And.intro (And.intro @z_iffB @z_eqN) (And.intro @z_eqI @z_eqV))) (And.intro (And.intro @z_eqB (And.intro @z_eqL @z_tand)) (And.intro (And.intro @z_andt @z_fand) (And.intro @z_andf @z_nt)))) (And.intro (And.intro (And.intro @z_nf (And.intro @z_neq @z_ff)) (And.intro (And.intro @z_dt @z_df) (And.intro @z_dnot @z_bnt))) (And.intro (And.intro @z_bnf (And.intro @z_bnn @z_bat)) (And.intro (And.intro @z_bta @z_bfa) (And.intro @z_baf @z_tn))))))) (And.intro (And.intro (And.intro (And.intro (And.intro (And.intro @z_tn1 (And.intro @z_tn2 @z_na)) (And.intro @z_an (And.intro @z_mz @z_zm))) (And.intro (And.intro @z_le (And.intro @z_leI @z_0le)) (And.intro (And.intro @z_0leN @z_mapc) (And.intro @z_mapn @z_lenc)))) (And.intro (And.intro (And.intro @z_lenn (And.intro @z_lenm @z_lenr)) (And.intro (And.intro @z_lenu @z_lenuc) (And.intro @z_getz @z_gets))) (And.intro (And.intro @z_getm (And.intro @z_setz @z_sets)) (And.intro (And.intro @z_allc @z_alln) (And.intro @z_tkz @z_tks))))) (And.intro (And.intro (And.intro (And.intro @z_tkn (And.intro @z_drz @z_drs)) (And.intro (And.intro @z_drn @z_apn) (And.intro @z_apc @z_nap))) (And.intro (And.intro @z_drm (And.intro @z_tkm @z_repz)) (And.intro (And.intro @hf_boxH @hf_alloc) (And.intro @hf_allocB @hf_load)))) (And.intro (And.intro (And.intro @hf_store (And.intro @hf_mkMap @hf_lookN)) (And.intro (And.intro @hf_look @hf_upd) (And.intro @hf_take @hf_mkH))) (And.intro (And.intro @hf_appL (And.intro @hf_bsM @hf_bsH)) (And.intro (And.intro @fillH_nil @fillH_cons) (And.intro @hf_frz @hf_lenM)))))) (And.intro (And.intro (And.intro (And.intro (And.intro @hf_lookT (And.intro @hf_clear @clB_rows)) (And.intro (And.intro @tkB_rows @ldB_rows) (And.intro @stB_rows @mpB_map))) (And.intro (And.intro @outQ_n (And.intro @outQ_s @updQ_n)) (And.intro (And.intro @updQ_s @reRow_a) (And.intro @reRow_i @reRow_b)))) (And.intro (And.intro (And.intro @reRow_s (And.intro @noH2_agg @noH2_sl)) (And.intro (And.intro @reRow_hs @reRow_sl) (And.intro @noH2_str @noH2_int))) (And.intro (And.intro @noH2_bool (And.intro @getJ_cons @set_nil)) (And.intro (And.intro @set_cons @get_cons) (And.intro @keep_nil @keep_cons))))) (And.intro (And.intro (And.intro (And.intro @hasN_nil (And.intro @hasN_cons @ev_t)) (And.intro (And.intro @ev_m @ev_c) (And.intro @evs_nil @evs_cons))) (And.intro (And.intro @mv_nil (And.intro @mv_t @mv_c)) (And.intro (And.intro @mv_m @put_none) (And.intro @lk_cons @lkO_cons)))) (And.intro (And.intro (And.intro @lkO_nil (And.intro @sel_nil @sel_cons)) (And.intro (And.intro @selc_some @selc_none) (And.intro @put_cn @mv1_cn))) (And.intro (And.intro @init_nil (And.intro @init_cons @set_cn)) (And.intro (And.intro @getJ_cn @get_cn) (And.intro @keep_cn @boxW_eq))))))))) := (And.intro (And.intro (And.intro (And.intro (And.intro (And.intro (And.intro (And.intro @Req_true (And.intro @Req_and @ifB_true)) (And.intro @ifB_false (And.intro @ifB_not @WK_map))) (And.intro (And.intro @WK_bind (And.intro @WK_some @WK_none)) (And.intro (And.intro @WK_ite @tst_t) (And.intro @tst_f @tst_u)))) (And.intro (And.intro (And.intro @L_nil (And.intro @L_none @L_some)) (And.intro (And.intro @D_nil @D_none) (And.intro @D_some @P_p))) (And.intro (And.intro @P_a (And.intro @P_call @P_h)) (And.intro (And.intro @P_callH @P_extr) (And.intro @P_box @P_ldF))))) (And.intro (And.intro (And.intro (And.intro @P_ldT (And.intro @P_st @P_init)) (And.intro (And.intro @D_p @D_a) (And.intro @D_call @D_h))) (And.intro (And.intro @D_callH (And.intro @D_extr @D_box)) (And.intro (And.intro @D_ldF @D_ldT) (And.intro @D_st @D_init)))) (And.intro (And.intro (And.intro @exV_tup (And.intro @exW_bool @exW_int)) (And.intro (And.intro @exW_str @exW_agg) (And.intro @exW_sl @exW_nili))) (And.intro (And.intro @exW_nilp (And.intro @exW_nilm @exW_iface)) (And.intro (And.intro @exW_hm @exW_hs) (And.intro @inF_raw @ldF_ptr)))))) (And.intro (And.intro (And.intro (And.intro (And.intro @ldT_ptr (And.intro @stF_ptr @seqQ_n)) (And.intro @seqQ_x (And.intro @seqQ_r @cutQ_n))) (And.intro (And.intro @cutQ_x (And.intro @cutQ_r @blkQ_n)) (And.intro (And.intro @blkQ_x @blkQ_r) (And.intro @loopQ_n @loopQ_x)))) (And.intro (And.intro (And.intro @loopQ_r (And.intro @C_skip @C_ret)) (And.intro (And.intro @C_exit @C_reg) (And.intro @C_regD @C_seq))) (And.intro (And.intro @C_cut (And.intro @C_block @cndW_bool)) (And.intro (And.intro @C_cond @ldR_ptr) (And.intro @resE_nil @resE_t))))) (And.intro (And.intro (And.intro (And.intro @resE_cell (And.intro @endQ_n @endQ_r)) (And.intro (And.intro @outV_one @outV_two) (And.intro @pf_mv @pf_same))) (And.intro (And.intro @pf_pick (And.intro @pf_ar_add @pf_arw_add)) (And.intro (And.intro @pf_ar_sub @pf_arw_sub) (And.intro @pf_ar_mul @pf_arw_mul)))) (And.intro (And.intro (And.intro @pf_quo (And.intro @pf_rem @pf_bits)) (And.intro (And.intro @pf_sh @pf_cmp_eql) (And.intro @pf_cmp_neq @pf_cmp_lss))) (And.intro (And.intro @pf_cmp_leq (And.intro @pf_cmp_gtr @pf_cmp_geq)) (And.intro (And.intro @pf_scmp_eql @pf_scmp_neq) (And.intro @pf_scmp_lss @pf_scmp_leq))))))) (And.intro (And.intro (And.intro (And.intro (And.intro (And.intro @pf_scmp_gtr (And.intro @pf_scmp_geq @pf_sadd)) (And.intro @pf_eqB (And.intro @pf_neB @pf_eqA))) (And.intro (And.intro @pf_neA (And.intro @pf_not @pf_neg)) (And.intro (And.intro @pf_lenS @pf_lenL) (And.intro @pf_lenH @pf_min)))) (And.intro (And.intro (And.intro @pf_max (And.intro @pf_conv @pf_b2s)) (And.intro (And.intro @pf_sidx @pf_faddrP) (And.intro @pf_faddrF @pf_isnil))) (And.intro (And.intro @pf_isnilH (And.intro @pf_isniliN @pf_isniliI)) (And.intro (And.intro @pf_field @pf_iaddr) (And.intro @pf_iaddrH @pf_aaddrP))))) (And.intro (And.intro (And.intro (And.intro @pf_aaddrF (And.intro @pf_aidx @pf_loadF)) (And.intro (And.intro @pf_nckP @pf_nckF) (And.intro @pf_nckN @pf_ssub_ff))) (And.intro (And.intro @pf_ssub_tf (And.intro @pf_ssub_ft @pf_ssub_tt)) (And.intro (And.intro @pf_sub_ff @pf_sub_tf) (And.intro @pf_sub_ft @pf_sub_tt)))) (And.intro (And.intro (And.intro @pf_sub_ftt (And.intro @pf_sub_ttt @pf_subH_tf)) (And.intro (And.intro @pf_subH_ft @pf_build) (And.intro @pf_buildM @fillPM_nil))) (And.intro (And.intro @fillPM_cons (And.intro @fillP_nil @fillP_cons)) (And.intro (And.intro @pf_mkfn @pf_mkif) (And.intro @eqL_nil @eqL_b)))))) (And.intro (And.intro (And.intro (And.intro (And.intro @eqL_i (And.intro @eqL_s @part_n)) (And.intro (And.intro @part_s @af_app) (And.intro @af_apps @af_s2b))) (And.intro (And.intro @af_mk (And.intro @af_bs @fillE_nil)) (And.intro (And.intro @fillE_cons @clr_junk) (And.intro @clr1_junk @clr2_junk)))) (And.intro (And.intro (And.intro @cells_junk (And.intro @solid_junk @okCell_junk)) (And.intro (And.intro @clr_bool @clr1_bool) (And.intro @clr2_bool @cells_bool))) (And.intro (And.intro @solid_bool (And.intro @okCell_bool @clr_int)) (And.intro (And.intro @clr1_int @clr2_int) (And.intro @cells_int @solid_int))))) (And.intro (And.intro (And.intro (And.intro @okCell_int (And.intro @clr_str @clr1_str)) (And.intro (And.intro @clr2_str @cells_str) (And.intro @solid_str @okCell_str))) (And.intro (And.intro @clr_nilp (And.intro @clr1_nilp @clr2_nilp)) (And.intro (And.intro @cells_nilp @solid_nilp) (And.intro @okCell_nilp @clr_ptr)))) (And.intro (And.intro (And.intro @clr1_ptr (And.intro @clr2_ptr @cells_ptr)) (And.intro (And.intro @solid_ptr @okCell_ptr) (And.intro @clr_fptr @clr1_fptr))) (And.intro (And.intro @clr2_fptr (And.intro @cells_fptr @solid_fptr)) (And.intro (And.intro @okCell_fptr @clr_hs) (And.intro @clr1_hs @clr2_hs)))))))) (And.intro (And.intro (And.intro (And.intro (And.intro (And.intro (And.intro @cells_hs (And.intro @solid_hs @okCell_hs)) (And.intro @clr_nilm (And.intro @clr1_nilm @clr2_nilm))) (And.intro (And.intro @cells_nilm (And.intro @solid_nilm @okCell_nilm)) (And.intro (And.intro @clr_hm @clr1_hm) (And.intro @clr2_hm @cells_hm)))) (And.intro (And.intro (And.intro @solid_hm (And.intro @okCell_hm @clr_fn)) (And.intro (And.intro @clr1_fn @clr2_fn) (And.intro @cells_fn @solid_fn))) (And.intro (And.intro @okCell_fn (And.intro @clr_nilf @clr1_nilf)) (And.intro (And.intro @clr2_nilf @cells_nilf) (And.intro @solid_nilf @okCell_nilf))))) (And.intro (And.intro (And.intro (And.intro @clr_iface (And.intro @clr1_iface @clr2_iface)) (And.intro (And.intro @cells_iface @solid_iface) (And.intro @okCell_iface @clr_nili))) (And.intro (And.intro @clr1_nili (And.intro @clr2_nili @cells_nili)) (And.intro (And.intro @solid_nili @okCell_nili) (And.intro @noH1_bool @noH1_int)))) (And.intro (And.intro (And.intro @noH1_str (And.intro @noH1_nilp @noH1_fptr)) (And.intro (And.intro @noH1_nilm @noH1_nilf) (And.intro @noH1_nili @clr_raw))) (And.intro (And.intro @af_raw (And.intro @noH1_sl @ofC1)) (And.intro (And.intro @ofC2 @z_rep1) (And.intro @z_rep2 @z_rep3)))))) (And.intro (And.intro (And.intro (And.intro (And.intro @z_rep4 (And.intro @z_rep5 @z_rep6)) (And.intro @z_rep7 (And.intro @z_rep8 @z_rep9))) (And.intro (And.intro @z_rep10 (And.intro @z_rep11 @z_rep12)) (And.intro (And.intro @clr_sl @clr1_sl) (And.intro @clr2_sl @cells_sl)))) (And.intro (And.intro (And.intro @solid_sl (And.intro @okCell_sl @clr_agg)) (And.intro (And.intro @clr2_agg @clr_tup) (And.intro @cells_agg @solid_agg))) (And.intro (And.intro @okCell_agg (And.intro @cells_tup @pick_t)) (And.intro (And.intro @pick_f @pick_bb) (And.intro @z_ift @z_iff))))) (And.intro (And.intro (And.intro (And.intro @z_iftP (And.intro @z_iffP @z_iftB)) (And.intro (And.intro @z_iffB @z_eqN) (And.intro @z_eqI @z_eqV))) (And.intro (And.intro @z_eqB (And.intro @z_eqL @z_tand)) (And.intro (And.intro @z_andt @z_fand) (And.intro @z_andf @z_nt)))) (And.intro (And.intro (And.intro @z_nf (And.intro @z_neq @z_ff)) (And.intro (And.intro @z_dt @z_df) (And.intro @z_dnot @z_bnt))) (And.intro (And.intro @z_bnf (And.intro @z_bnn @z_bat)) (And.intro (And.intro @z_bta @z_bfa) (And.intro @z_baf @z_tn))))))) (And.intro (And.intro (And.intro (And.intro (And.intro (And.intro @z_tn1 (And.intro @z_tn2 @z_na)) (And.intro @z_an (And.intro @z_mz @z_zm))) (And.intro (And.intro @z_le (And.intro @z_leI @z_0le)) (And.intro (And.intro @z_0leN @z_mapc) (And.intro @z_mapn @z_lenc)))) (And.intro (And.intro (And.intro @z_lenn (And.intro @z_lenm @z_lenr)) (And.intro (And.intro @z_lenu @z_lenuc) (And.intro @z_getz @z_gets))) (And.intro (And.intro @z_getm (And.intro @z_setz @z_sets)) (And.intro (And.intro @z_allc @z_alln) (And.intro @z_tkz @z_tks))))) (And.intro (And.intro (And.intro (And.intro @z_tkn (And.intro @z_drz @z_drs)) (And.intro (And.intro @z_drn @z_apn) (And.intro @z_apc @z_nap))) (And.intro (And.intro @z_drm (And.intro @z_tkm @z_repz)) (And.intro (And.intro @hf_boxH @hf_alloc) (And.intro @hf_allocB @hf_load)))) (And.intro (And.intro (And.intro @hf_store (And.intro @hf_mkMap @hf_lookN)) (And.intro (And.intro @hf_look @hf_upd) (And.intro @hf_take @hf_mkH))) (And.intro (And.intro @hf_appL (And.intro @hf_bsM @hf_bsH)) (And.intro (And.intro @fillH_nil @fillH_cons) (And.intro @hf_frz @hf_lenM)))))) (And.intro (And.intro (And.intro (And.intro (And.intro @hf_lookT (And.intro @hf_clear @clB_rows)) (And.intro (And.intro @tkB_rows @ldB_rows) (And.intro @stB_rows @mpB_map))) (And.intro (And.intro @outQ_n (And.intro @outQ_s @updQ_n)) (And.intro (And.intro @updQ_s @reRow_a) (And.intro @reRow_i @reRow_b)))) (And.intro (And.intro (And.intro @reRow_s (And.intro @noH2_agg @noH2_sl)) (And.intro (And.intro @reRow_hs @reRow_sl) (And.intro @noH2_str @noH2_int))) (And.intro (And.intro @noH2_bool (And.intro @getJ_cons @set_nil)) (And.intro (And.intro @set_cons @get_cons) (And.intro @keep_nil @keep_cons))))) (And.intro (And.intro (And.intro (And.intro @hasN_nil (And.intro @hasN_cons @ev_t)) (And.intro (And.intro @ev_m @ev_c) (And.intro @evs_nil @evs_cons))) (And.intro (And.intro @mv_nil (And.intro @mv_t @mv_c)) (And.intro (And.intro @mv_m @put_none) (And.intro @lk_cons @lkO_cons)))) (And.intro (And.intro (And.intro @lkO_nil (And.intro @sel_nil @sel_cons)) (And.intro (And.intro @selc_some @selc_none) (And.intro @put_cn @mv1_cn))) (And.intro (And.intro @init_nil (And.intro @init_cons @set_cn)) (And.intro (And.intro @getJ_cn @get_cn) (And.intro @keep_cn @boxW_eq)))))))))
end Go.Proofs.Ytnodepfoahmcmaa.E

/- The engine, part AG: abstract code is run outright: what comes out is what the code means. Conditions: none. -/
namespace Go.Proofs.Ytnodepfoahmcmaa.E
set_option linter.unusedVariables false

abbrev Call3 := Nat → Nat → List V → Heap → Nat → Option (V × Heap × Nat)
def evO (C : Call3) (o : AOp) (st : St) : Option St := match o.k with
  | .call f v args => if (args.map st.ev).all noH = true then (C f v (args.map st.ev) [] 0).bind fun q => if noH q.1 = true then some (st.app ⟨st.moves args ++ dstw o.dst q.1, [], 0, none⟩) else none else none
  | .callH v x args => match st.ev x with
    | .fn f cap => (C f v (args.map st.ev ++ cap.map clr) st.heap st.ctr).map fun q => st.app ⟨st.moves args ++ dstw o.dst q.1, [], q.2.2 - st.ctr, some q.2.1⟩
    | _ => none
  | .p f args => (eff ⟨o.dst, none, .p f args⟩ st).map st.app
  | .a f args => (eff ⟨o.dst, none, .a f args⟩ st).map st.app
  | .extr s i => (eff ⟨o.dst, none, .extr s i⟩ st).map st.app
  | .box s x => (eff ⟨o.dst, none, .box s x⟩ st).map st.app
  | .init d n x => (eff ⟨o.dst, none, .init d n x⟩ st).map st.app
  | .loadL s p n tk => (eff ⟨o.dst, none, .loadL s p n tk⟩ st).map st.app
  | .storeL s n p x => (eff ⟨o.dst, none, .storeL s n p x⟩ st).map st.app
  | .h f args => (eff ⟨o.dst, none, .h f args⟩ st).map st.app
def evL (C : Call3) : List AOp → St → Option St
  | [], st => some st
  | o :: r, st => (wantedA st o.guard).bind fun b => if b = true then (evO C o st).bind (evL C r) else evL C r (st.app ⟨dstw o.dst (.tup []), [], 0, none⟩)
def callF (T : Tab) (ev : AC → St → Option (AE × St)) : Call3 := fun f v args h n => match T.ext f args h n with | some q => some q | none => (T.fn f v).bind fun F => if args.length = F.np then (ev F.code ⟨initE 0 args, [], h, n⟩).bind fun q => (match q.1 with
  | .normal | .ret => (resL q.2 F.res).map fun rs => (outV rs, q.2.heap, q.2.ctr)
  | .exit _ => none) else none
/-- One layer of code. -/
def evS (T : Tab) (ev : AC → St → Option (AE × St)) : AC → St → Option (AE × St)
  | .skip, st => some (.normal, st)
  | .reg _ ops, st => (evL (callF T ev) ops st).map fun st => (.normal, st)
  | .seq a b, st => (ev a st).bind fun q => (match q.1 with | .normal => ev b q.2 | .exit i => some (.exit i, q.2) | .ret => some (.ret, q.2))
  | .cut ke kl a, st => (ev a st).map fun q => (match q.1 with | .normal => (.normal, q.2.norm ke kl) | .exit i => (.exit i, q.2) | .ret => (.ret, q.2))
  | .cond c x y, st => (match st.ev c with | .bool b => if b = true then ev x st else ev y st | _ => none)
  | .block id c, st => (ev c st).map fun q => (match q.1 with | .exit i => if i = id then (.normal, q.2) else (.exit i, q.2) | .normal => (.normal, q.2) | .ret => (.ret, q.2))
  | .loop ke kl c, st => (ev c (st.norm ke kl)).bind fun q => (match q.1 with | .normal => ev (.loop ke kl c) q.2 | .exit i => some (.exit i, q.2) | .ret => some (.ret, q.2))
  | .exit id, st => some (.exit id, st)
  | .ret, st => some (.ret, st)
noncomputable def evC (T : Tab) (k : Nat) : AC → St → Option (AE × St) := Nat.rec (fun _ _ => none) (fun _ ih => evS T ih) k
noncomputable def evF (T : Tab) (k : Nat) : Call3 := callF T (evC T k)

section
variable {T : Tab} {X : Sem3}

def GoodC (X : Sem3) (C : Call3) : Prop := ∀ f v a h n q, C f v a h n = some q → X f v a h n (fun r h' n' => r = q.1 ∧ h' = q.2.1 ∧ n' = q.2.2)
def GoodE (X : Sem3) (ev : AC → St → Option (AE × St)) : Prop := ∀ c st q, ev c st = some q → ∀ Q : AE → St → Prop, Q q.1 q.2 → wpC X c Q st

theorem evO_ok {C : Call3} (hC : GoodC X C) {o : AOp} {st st' : St} (h : evO C o st = some st') {K : St → Prop} (hK : K st') : wpO X o K st ∧ wpOD X o K st := by
  have he : ∀ e, (eff o st).map st.app = some e → K e → W (eff o st) fun e => K (st.app e) := fun e h1 h2 => by
    obtain ⟨a, ha, rfl⟩ := Option.map_eq_some_iff.1 h1
    rw [ha]; exact h2
  unfold evO at h
  unfold wpO wpOD
  have hef : ∀ k, o.k = k → eff ⟨o.dst, none, k⟩ st = eff o st := fun k hk => by unfold eff; rw [hk]
  cases hk : o.k <;> rw [hk] at h <;> simp only at h ⊢
  case call f v args =>
    split at h <;> first | (cases h; done) | skip
    rename_i ha
    obtain ⟨q, hq, h⟩ := Option.bind_eq_some_iff.1 h
    split at h <;> first | (cases h; done) | skip
    rename_i hn
    injection h with h; subst h
    have hx := hC _ _ _ _ _ _ hq
    exact ⟨⟨ha, _, hx, fun r h n hr => by obtain ⟨rfl, rfl, rfl⟩ := hr; exact ⟨hn, hK⟩⟩, ha, q.1, _, hx, fun r h n hr => hr.1, hn, hK⟩
  case callH v x args =>
    cases hx : st.ev x <;> rw [hx] at h <;> simp only at h ⊢ <;> first | (cases h; done) | skip
    obtain ⟨q, hq, rfl⟩ := Option.map_eq_some_iff.1 h
    have hx := hC _ _ _ _ _ _ hq
    exact ⟨⟨_, hx, fun r h n hr => by obtain ⟨rfl, rfl, rfl⟩ := hr; exact hK⟩, q.1, q.2.1, q.2.2, _, hx, fun r h n hr => hr, hK⟩
  all_goals
    rw [hef _ hk] at h
    exact ⟨he _ h hK, he _ h hK⟩
theorem evL_ok {C : Call3} (hC : GoodC X C) : ∀ (ops : List AOp) {st st' : St}, evL C ops st = some st' → ∀ {K : St → Prop}, K st' → wpL X ops K st ∧ wpLD X ops K st
  | [], st, st', h, K, hK => by simp only [evL, Option.some.injEq] at h; subst h; exact ⟨hK, hK⟩
  | o :: r, st, st', h, K, hK => by
    simp only [evL] at h
    obtain ⟨b, hb, h⟩ := Option.bind_eq_some_iff.1 h
    simp only [wpL, wpLD, hb, W]
    cases b with
    | true =>
      simp only [if_true] at h ⊢
      obtain ⟨s1, h1, h2⟩ := Option.bind_eq_some_iff.1 h
      exact ⟨(evO_ok hC h1 (evL_ok hC r h2 hK).1).1, (evO_ok hC h1 (K := wpLD X r K) (evL_ok hC r h2 hK).2).2⟩
    | false =>
      simp only [Bool.false_eq_true, if_false] at h ⊢
      exact evL_ok hC r h hK
theorem callF_ok {ev : AC → St → Option (AE × St)} (hX : ∀ f v a h n Q, Phi T X f v a h n Q → X f v a h n Q) (hE : GoodE X ev) : GoodC X (callF T ev) := by
  intro f v a h n q hq
  unfold callF at hq
  split at hq
  · rename_i q' he
    injection hq with hq; subst hq
    apply hX
    left
    rw [he]
    exact ⟨rfl, rfl, rfl⟩
  obtain ⟨F, hF, hq⟩ := Option.bind_eq_some_iff.1 hq
  split at hq <;> first | (cases hq; done) | skip
  rename_i hl
  obtain ⟨p, hp, hq⟩ := Option.bind_eq_some_iff.1 hq
  apply hX
  right
  rw [hF]
  refine ⟨hl, hE _ _ _ hp _ ?_⟩
  split at hq <;> first | (cases hq; done) | skip
  all_goals
    rename_i he
    rw [he]
    obtain ⟨rs, hr, rfl⟩ := Option.map_eq_some_iff.1 hq
    simp only [hr, W, and_self]
theorem evS_ok {ev : AC → St → Option (AE × St)} (hX : ∀ f v a h n Q, Phi T X f v a h n Q → X f v a h n Q) (hE : GoodE X ev) : GoodE X (evS T ev) := by
  intro c st q h Q hQ
  cases c with
  | skip => simp only [evS, Option.some.injEq] at h; subst h; exact hQ
  | reg d ops =>
    simp only [evS] at h
    obtain ⟨s, hs, rfl⟩ := Option.map_eq_some_iff.1 h
    have := evL_ok (callF_ok hX hE) ops hs (K := Q .normal) hQ
    cases d
    · exact this.1
    · exact this.2
  | seq a b =>
    simp only [evS] at h
    obtain ⟨p, hp, h⟩ := Option.bind_eq_some_iff.1 h
    refine hE _ _ _ hp _ ?_
    obtain ⟨e, s⟩ := p
    cases e with
    | normal => exact hE _ _ _ h _ hQ
    | exit i => simp only [Option.some.injEq] at h; subst h; exact hQ
    | ret => simp only [Option.some.injEq] at h; subst h; exact hQ
  | cut ke kl a =>
    simp only [evS] at h
    obtain ⟨p, hp, rfl⟩ := Option.map_eq_some_iff.1 h
    refine hE _ _ _ hp _ ?_
    obtain ⟨e, s⟩ := p
    cases e <;> exact hQ
  | cond c x y =>
    simp only [evS] at h
    simp only [wpC]
    cases hb : st.ev c <;> rw [hb] at h <;> first | (cases h; done) | skip
    rename_i b
    cases b with
    | true => exact hE _ _ _ (by simpa using h) _ hQ
    | false => exact hE _ _ _ (by simpa using h) _ hQ
  | block id c =>
    simp only [evS] at h
    obtain ⟨p, hp, rfl⟩ := Option.map_eq_some_iff.1 h
    refine hE _ _ _ hp _ ?_
    obtain ⟨e, s⟩ := p
    cases e with
    | normal => exact hQ
    | ret => exact hQ
    | exit i =>
      simp only at hQ ⊢
      split
      · rename_i e; rw [if_pos e] at hQ; exact hQ
      · rename_i e; rw [if_neg e] at hQ; exact hQ
  | loop ke kl c =>
    simp only [evS] at h
    obtain ⟨p, hp, h⟩ := Option.bind_eq_some_iff.1 h
    intro L hL
    apply hL
    refine hE _ _ _ hp _ ?_
    obtain ⟨e, s⟩ := p
    cases e with
    | normal => exact hE _ _ _ h Q hQ L hL
    | exit i => simp only [Option.some.injEq] at h; subst h; exact hQ
    | ret => simp only [Option.some.injEq] at h; subst h; exact hQ
  | exit id => simp only [evS, Option.some.injEq] at h; subst h; exact hQ
  | ret => simp only [evS, Option.some.injEq] at h; subst h; exact hQ
theorem evC_ok (hX : ∀ f v a h n Q, Phi T X f v a h n Q → X f v a h n Q) : ∀ k, GoodE X (evC T k)
  | 0 => fun c st q h => by cases h
  | k + 1 => evS_ok hX (evC_ok hX k)

/-- Less may be asked of a call. -/
theorem Run.weaken {f v : Nat} {a : List V} {h : Heap} {n : Nat} {Q Q' : V → Heap → Nat → Prop} (hr : Run T f v a h n Q) (hq : ∀ r h n, Q r h n → Q' r h n) : Run T f v a h n Q' := by
  refine hr (fun f v a h n Q => ∀ Q' : V → Heap → Nat → Prop, (∀ r h n, Q r h n → Q' r h n) → Run T f v a h n Q') (fun f v a h n Q hp Q' hq => ?_) Q' hq
  apply Run.fold
  unfold Phi at hp ⊢
  refine hp.imp (fun hw => W.imp (fun q hq' => hq _ _ _ hq') hw) fun hp => W.imp (fun F hF => ⟨hF.1, wpC_mono (fun f v a h n Q hx => hx Q fun _ _ _ h => h) F.code (fun e st he => ?_) hF.2⟩) hp
  cases e with
  | normal => exact W.imp (fun rs hrs => hq _ _ _ hrs) he
  | ret => exact W.imp (fun rs hrs => hq _ _ _ hrs) he
  | exit i => exact he

/-- A call of which a contract is known. -/
theorem run_ext {f v : Nat} {a : List V} {h : Heap} {n : Nat} {q : V × Heap × Nat} (hq : T.ext f a h n = some q) : Run T f v a h n (fun r h' n' => r = q.1 ∧ h' = q.2.1 ∧ n' = q.2.2) :=
  Run.fold T (.inl (by rw [hq]; exact ⟨rfl, rfl, rfl⟩))
/-- A call that is run outright. -/
theorem run_ev {f v : Nat} {a : List V} {h : Heap} {n : Nat} {q : V × Heap × Nat} (k : Nat) (hq : evF T k f v a h n = some q) : Run T f v a h n (fun r h' n' => r = q.1 ∧ h' = q.2.1 ∧ n' = q.2.2) :=
  fun X hX => callF_ok hX (evC_ok hX k) f v a h n q hq
end
end Go.Proofs.Ytnodepfoahmcmaa.E

/- The engine, part AI: maps whose keys are strings, as rows of pairs. Conditions: none. -/
namespace Go.Proofs.Ytnodepfoahmcmaa.E
set_option linter.unusedVariables false

abbrev MS := List (List UInt8 × V)
def emb (m : MS) : List (V × V) := m.map fun p => (.str p.1, p.2)
def fnd : MS → List UInt8 → Nat → Option (Nat × V)
  | [], _, _ => none
  | (a, x) :: r, k, i => if k = a then some (i, x) else fnd r k (i + 1)
def gt : MS → List UInt8 → Option V
  | [], _ => none
  | (a, x) :: r, k => if k = a then some x else gt r k
def ins : MS → List UInt8 → V → MS
  | [], k, v => [(k, v)]
  | (a, x) :: r, k, v => if k = a then (k, v) :: r else (a, x) :: ins r k v
theorem findK_str (k : List UInt8) : ∀ (m : MS) (i : Nat), findK false [2] (.str k) (emb m) i = some (fnd m k i)
  | [], i => rfl
  | (a, x) :: r, i => by
    have ih := findK_str k r (i + 1)
    simp only [emb, List.map_cons, findK, eqV, eq1, Option.bind_some, fnd] at ih ⊢
    by_cases h : k = a
    · simp [h]
    · simp [h, ih]
theorem fnd_gt (k : List UInt8) : ∀ (m : MS) (i : Nat), (fnd m k i).map (·.2) = gt m k
  | [], i => rfl
  | (a, x) :: r, i => by
    simp only [fnd, gt]
    split
    · rfl
    · exact fnd_gt k r (i + 1)
theorem fnd_add (k : List UInt8) : ∀ (m : MS) (i : Nat), fnd m k (i + 1) = (fnd m k i).map fun p => (p.1 + 1, p.2)
  | [], i => rfl
  | (a, x) :: r, i => by
    simp only [fnd]
    split
    · rfl
    · exact fnd_add k r (i + 1)
theorem upd_ins (k : List UInt8) (v : V) : ∀ (m : MS), updQ (emb m) (.str k) v (fnd m k 0) = emb (ins m k v)
  | [] => rfl
  | (a, x) :: r => by
    have ih := upd_ins k v r
    simp only [fnd, ins]
    by_cases h : k = a
    · subst h; simp only [if_true]; rfl
    · rw [if_neg h, if_neg h, fnd_add]
      cases hf : fnd r k 0 with
      | none =>
        rw [hf] at ih
        simp only [updQ, Option.map_none, emb, List.map_cons, List.cons_append] at ih ⊢
        rw [ih]
      | some q =>
        rw [hf] at ih
        simp only [updQ, Option.map_some, emb, List.map_cons, List.set_cons_succ] at ih ⊢
        rw [ih]
theorem gt_ins (k k' : List UInt8) (v : V) : ∀ (m : MS), gt (ins m k v) k' = if k' = k then some v else gt m k'
  | [] => by simp [ins, gt]
  | (a, x) :: r => by
    simp only [ins]
    by_cases h : k = a
    · subst h
      simp only [if_true, gt]
      split <;> rfl
    · rw [if_neg h]
      simp only [gt, gt_ins k k' v r]
      by_cases h2 : k' = a
      · subst h2; rw [if_pos rfl, if_neg fun e => h e.symm, if_pos rfl]
      · rw [if_neg h2, if_neg h2]
theorem outQ_gt (z : V) (m : MS) (k : List UInt8) (i : Nat) : outQ false z (fnd m k i) = clr2 ((gt m k).getD z) := by
  rw [← fnd_gt k m i]
  cases fnd m k i <;> rfl
theorem outQ_gtT (z : V) (m : MS) (k : List UInt8) (i : Nat) : outQ true z (fnd m k i) = .tup [clr2 ((gt m k).getD z), .bool (gt m k).isSome] := by
  rw [← fnd_gt k m i]
  cases fnd m k i <;> rfl
theorem lkT_none {z : V} {m : MS} {k : List UInt8} {b : Nat} {h : Heap} {K : V × Heap × Nat → Prop} (hg : gt m k = none) : lkT z (.str k) (emb m) (fnd m k 0) b h K = K (z, h, 0) := by
  rw [← fnd_gt k m 0] at hg
  cases hf : fnd m k 0 with
  | none => rfl
  | some q => rw [hf] at hg; cases hg
theorem set_ins (k : List UInt8) (v : V) : ∀ (m : MS) (j : Nat) (x : V), fnd m k 0 = some (j, x) → (emb m).set j (.str k, v) = emb (ins m k v) := fun m j x h => by
  have := upd_ins k v m
  rw [h] at this
  exact this
theorem lkT_some {z v : V} {m : MS} {k : List UInt8} {b : Nat} {h : Heap} {K : V × Heap × Nat → Prop} (hg : gt m k = some v) : lkT z (.str k) (emb m) (fnd m k 0) b h K = K (v, set h b (.map (emb (ins m k (clr2 v)))), 0) := by
  rw [← fnd_gt k m 0] at hg
  cases hf : fnd m k 0 with
  | none => rw [hf] at hg; cases hg
  | some q =>
    rw [hf] at hg
    injection hg with hg
    subst hg
    have := set_ins k (clr2 q.2) m q.1 q.2 hf
    simp only [lkT, this]
theorem emb_nil : emb [] = [] := rfl
end Go.Proofs.Ytnodepfoahmcmaa.E

/- The engine, part AJ: a table of rows that may be written, behind other blocks. Conditions: none. -/
namespace Go.Proofs.Ytnodepfoahmcmaa.E
set_option linter.unusedVariables false

/-- A row of whole numbers. -/
def rowV (k : IntKind) (w : Nat) (f : Nat → Nat → Nat) (i : Nat) : List V := (List.range w).map fun j => .int k (f i j : Nat)
def updF (f : Nat → Nat → Nat) (i j v : Nat) : Nat → Nat → Nat := fun i' j' => if i' = i ∧ j' = j then v else f i' j'
theorem rowV_get {k : IntKind} {w : Nat} {f : Nat → Nat → Nat} {i j : Nat} (h : j < w) : (rowV k w f i)[j]? = some (.int k (f i j : Nat)) := by
  unfold rowV; rw [List.getElem?_map, List.getElem?_range h]; rfl
theorem rowV_len {k : IntKind} {w : Nat} {f : Nat → Nat → Nat} {i : Nat} : (rowV k w f i).length = w := by simp [rowV]
theorem rowV_set {k : IntKind} {w : Nat} {f : Nat → Nat → Nat} {i j v : Nat} : (rowV k w f i).set j (.int k (v : Nat)) = rowV k w (updF f i j v) i := by
  apply List.ext_getElem
  · simp [rowV]
  · intro q h1 h2
    simp only [rowV, List.getElem_set, List.getElem_map, List.getElem_range, updF, true_and]
    by_cases e : j = q
    · subst e; simp
    · rw [if_neg e, if_neg fun e' => e e'.symm]
theorem rowV_other {k : IntKind} {w : Nat} {f : Nat → Nat → Nat} {i i' j v : Nat} (h : i' ≠ i) : rowV k w (updF f i j v) i' = rowV k w f i' := by
  unfold rowV; congr 1; funext q; simp [updF, h]

/-- Blocks behind h: a row of handles under number n, the first m rows behind it. -/
def TB (k : IntKind) (h : Heap) (n m w : Nat) (hs : List V) (f : Nat → Nat → Nat) : Heap := h ++ (n, .rows 1 hs) :: (List.range m).map fun i => (n + 1 + i, .rows 1 (rowV k w f i))
def Low (h : Heap) (n : Nat) : Prop := ∀ p ∈ h, p.1 < n
theorem get_app {h l : Heap} {n k : Nat} (hl : Low h n) (hk : n ≤ k) : get (h ++ l) k = get l k := by
  induction h with
  | nil => rfl
  | cons p h ih =>
    obtain ⟨a, x⟩ := p
    have := hl (a, x) (by simp)
    simp only at this
    rw [List.cons_append, get, if_neg (by omega)]
    exact ih fun q hq => hl q (by simp [hq])
theorem set_app {h l : Heap} {n k : Nat} {x : Blk} (hl : Low h n) (hk : n ≤ k) : set (h ++ l) k x = h ++ set l k x := by
  induction h with
  | nil => rfl
  | cons p h ih =>
    obtain ⟨a, y⟩ := p
    have := hl (a, y) (by simp)
    simp only at this
    rw [List.cons_append, set, if_neg (by omega), if_neg (by omega), List.cons_append]
    congr 1
    exact ih fun q hq => hl q (by simp [hq])
def rws (n : Nat) (g : Nat → Blk) (s m : Nat) : Heap := (List.range' s m).map fun i => (n + i, g i)
theorem get_rws {n : Nat} {g : Nat → Blk} : ∀ {m s i : Nat}, s ≤ i → i < s + m → get (rws n g s m) (n + i) = some (g i)
  | 0, s, i, h1, h2 => by omega
  | m + 1, s, i, h1, h2 => by
    unfold rws
    rw [List.range'_succ, List.map_cons, get]
    by_cases e : i = s
    · subst e; rw [if_pos rfl]
    · rw [if_neg (by omega)]
      exact get_rws (by omega) (by omega)
theorem set_rws {n : Nat} {g : Nat → Blk} {x : Blk} : ∀ {m s i : Nat}, s ≤ i → i < s + m → set (rws n g s m) (n + i) x = rws n (fun j => if j = i then x else g j) s m
  | 0, s, i, h1, h2 => by omega
  | m + 1, s, i, h1, h2 => by
    unfold rws
    rw [List.range'_succ, List.map_cons, List.map_cons, set]
    by_cases e : i = s
    · subst e
      rw [if_neg (by omega), if_pos rfl]
      simp only [if_true]
      congr 1
      apply List.map_congr_left
      intro j hj
      have := (List.mem_range'.1 hj)
      obtain ⟨q, _, rfl⟩ := this
      rw [if_neg (by omega)]
    · rw [if_neg (by omega), if_neg (by omega)]
      have h9 := set_rws (n := n) (g := g) (x := x) (m := m) (s := s + 1) (i := i) (by omega) (by omega)
      unfold rws at h9
      rw [h9]
      congr 1
      simp only
      rw [if_neg fun e' => e e'.symm]
theorem set_rws_new {n : Nat} {g : Nat → Blk} {x : Blk} : ∀ {m s : Nat}, set (rws n g s m) (n + (s + m)) x = rws n (fun j => if j = s + m then x else g j) s (m + 1)
  | 0, s => by simp [rws, set]
  | m + 1, s => by
    have ih := set_rws_new (n := n) (g := g) (x := x) (m := m) (s := s + 1)
    unfold rws at ih ⊢
    rw [List.range'_succ (n := m), List.map_cons, set, if_neg (by omega), if_neg (by omega), List.range'_succ (n := m + 1), List.map_cons]
    rw [show s + (m + 1) = s + 1 + m by omega, ih]
    congr 1
    simp only
    rw [if_neg (by omega)]
theorem TB_eq {k : IntKind} {h : Heap} {n m w : Nat} {hs : List V} {f : Nat → Nat → Nat} : TB k h n m w hs f = h ++ (n, .rows 1 hs) :: rws (n + 1) (fun i => .rows 1 (rowV k w f i)) 0 m := by
  unfold TB rws; rw [List.range_eq_range']
section
variable {k : IntKind} {h : Heap} {n m w : Nat} {hs : List V} {f : Nat → Nat → Nat}
theorem TB_outer (hl : Low h n) : get (TB k h n m w hs f) n = some (.rows 1 hs) := by
  unfold TB; rw [get_app hl (Nat.le_refl _), get, if_pos rfl]
theorem TB_row {i : Nat} (hl : Low h n) (hi : i < m) : get (TB k h n m w hs f) (n + 1 + i) = some (.rows 1 (rowV k w f i)) := by
  rw [TB_eq, get_app hl (by omega), get, if_neg (by omega)]
  exact get_rws (Nat.zero_le _) (by omega)
theorem TB_set_outer {hs' : List V} (hl : Low h n) : set (TB k h n m w hs f) n (.rows 1 hs') = TB k h n m w hs' f := by
  unfold TB; rw [set_app hl (Nat.le_refl _), set, if_neg (by omega), if_pos rfl]
theorem TB_set_row {i j v : Nat} (hl : Low h n) (hi : i < m) : set (TB k h n m w hs f) (n + 1 + i) (.rows 1 ((rowV k w f i).set j (.int k (v : Nat)))) = TB k h n m w hs (updF f i j v) := by
  rw [TB_eq, TB_eq, set_app hl (by omega), set, if_neg (by omega), if_neg (by omega), set_rws (Nat.zero_le _) (by omega)]
  congr 3
  funext q
  by_cases e : q = i
  · subst e; rw [if_pos rfl, rowV_set]
  · rw [if_neg e, rowV_other e]
theorem TB_new (hl : Low h n) (hz : ∀ j, f m j = 0) : set (TB k h n m w hs f) (n + 1 + m) (.rows 1 (List.replicate w (.int k 0))) = TB k h n (m + 1) w hs f := by
  rw [TB_eq, TB_eq, set_app hl (by omega), set, if_neg (by omega), if_neg (by omega)]
  have := set_rws_new (n := n + 1) (g := fun i => .rows 1 (rowV k w f i)) (x := .rows 1 (List.replicate w (.int k 0))) (m := m) (s := 0)
  rw [Nat.zero_add] at this
  rw [this]
  congr 3
  funext q
  by_cases e : q = m
  · subst e
    rw [if_pos rfl]
    congr 1
    apply List.ext_getElem
    · simp [rowV]
    · intro i h1 h2; simp [rowV, hz]
  · rw [if_neg e]
theorem TB_first (hl : Low h n) : set h n (.rows 1 hs) = TB k h n 0 w hs f := by
  unfold TB
  have := set_app (l := []) (x := .rows 1 hs) hl (Nat.le_refl _)
  rw [List.append_nil] at this
  rw [this]
  rfl
end
/-- Appending to rows that may be written. -/
theorem appB_nil {sz y b o n : Nat} {x : V} {l : List V} {h : Heap} {k : V × Heap × Nat → Prop} {t : Tag k} : WK (appB sz y b 0 o 0 (x :: l) h n) k t = Req ((l.length + 1) * y ≤ 17592186044416 ∧ l.length + 1 ≤ 17592186044416) (k (.hs n sz 0 (l.length + 1), set h n (.rows sz ((x :: l).map clr2)), 1)) := by
  unfold appB WK
  rw [if_neg (by simp), W_ite]
  simp only [Nat.zero_add, List.length_cons, if_true, LIM, W]
def apB (blk : Blk) (sz m : Nat) (l' : List V) (k : List V → Prop) : Prop := match blk with
  | .rows z l => Req (z = sz ∧ m ≤ l.length) (k (l.take m ++ l'.map clr2))
  | _ => False
theorem apB_rows {z sz m : Nat} {l l' : List V} {k : List V → Prop} : apB (.rows z l) sz m l' k = Req (z = sz ∧ m ≤ l.length) (k (l.take m ++ l'.map clr2)) := nr rfl
theorem appB_put {sz y b z m n : Nat} {x : V} {l : List V} {h : Heap} {k : V × Heap × Nat → Prop} {t : Tag k} : WK (appB sz y b (z + 1) 0 m (x :: l) h n) k t = Req (z + 1 = sz ∧ (m + (l.length + 1)) * y ≤ 17592186044416 ∧ m + (l.length + 1) ≤ 17592186044416) (WK (get h b) (fun blk => apB blk sz m (x :: l) fun L => k (.hs n sz 0 (m + (l.length + 1)), set (del h b) n (.rows sz L), 1)) ⟨⟩) := by
  unfold appB WK
  rw [if_neg (by simp), W_ite, if_neg (by simp)]
  simp only [List.length_cons, LIM, and_true]
  by_cases e : z + 1 = sz
  · rw [if_pos e]
    cases hg : get h b with
    | none => simp [Req, W]
    | some blk =>
      cases blk with
      | map es => simp [Req, W, apB]
      | bld T e s => simp [Req, W, apB]
      | rows z' L =>
        simp only [W, apB, Req, e, true_and]
        by_cases c : z' = sz ∧ m ≤ L.length
        · rw [if_pos c]; simp [W, c]
        · rw [if_neg c]; simp [W, c]
  · rw [if_neg e]
    simp [Req, W, e]
/-- The same, where the new elements keep their rights. -/
theorem appL_nil {sz y b o n : Nat} {x : V} {l : List V} {h : Heap} {k : V × Heap × Nat → Prop} {t : Tag k} : WK (appBL sz y b 0 o 0 (x :: l) h n) k t = Req ((l.length + 1) * y ≤ 17592186044416 ∧ l.length + 1 ≤ 17592186044416) (k (.hs n sz 0 (l.length + 1), set h n (.rows sz (x :: l)), 1)) := by
  unfold appBL WK
  rw [if_neg (by simp), W_ite]
  simp only [Nat.zero_add, List.length_cons, if_true, LIM, W]
def apL (blk : Blk) (sz m : Nat) (l' : List V) (k : List V → Prop) : Prop := match blk with
  | .rows z l => Req (z = sz ∧ m ≤ l.length) (k (l.take m ++ l'))
  | _ => False
theorem apL_rows {z sz m : Nat} {l l' : List V} {k : List V → Prop} : apL (.rows z l) sz m l' k = Req (z = sz ∧ m ≤ l.length) (k (l.take m ++ l')) := nr rfl
theorem appL_put {sz y b z m n : Nat} {x : V} {l : List V} {h : Heap} {k : V × Heap × Nat → Prop} {t : Tag k} : WK (appBL sz y b (z + 1) 0 m (x :: l) h n) k t = Req (z + 1 = sz ∧ (m + (l.length + 1)) * y ≤ 17592186044416 ∧ m + (l.length + 1) ≤ 17592186044416) (WK (get h b) (fun blk => apL blk sz m (x :: l) fun L => k (.hs n sz 0 (m + (l.length + 1)), set (del h b) n (.rows sz L), 1)) ⟨⟩) := by
  unfold appBL WK
  rw [if_neg (by simp), W_ite, if_neg (by simp)]
  simp only [List.length_cons, LIM, and_true]
  by_cases e : z + 1 = sz
  · rw [if_pos e]
    cases hg : get h b with
    | none => simp [Req, W]
    | some blk =>
      cases blk with
      | map es => simp [Req, W, apL]
      | bld T e s => simp [Req, W, apL]
      | rows z' L =>
        simp only [W, apL, Req, e, true_and]
        by_cases c : z' = sz ∧ m ≤ L.length
        · rw [if_pos c]; simp [W, c]
        · rw [if_neg c]; simp [W, c]
  · rw [if_neg e]
    simp [Req, W, e]
def apM (blk : Blk) (sz z2 m2 b b2 : Nat) (k : List V → Prop) : Prop := match blk with
  | .rows z l => Req (z = sz ∧ z2 = sz ∧ m2 = l.length ∧ 0 < m2 ∧ b2 ≠ b) (k l)
  | _ => False
theorem apM_rows {z sz z2 m2 b b2 : Nat} {l : List V} {k : List V → Prop} : apM (.rows z l) sz z2 m2 b b2 k = Req (z = sz ∧ z2 = sz ∧ m2 = l.length ∧ 0 < m2 ∧ b2 ≠ b) (k l) := nr rfl
theorem hf_appM {sz y b z o m b2 z2 m2 : Nat} {h : Heap} {n : Nat} {k : V × Heap × Nat → Prop} {t : Tag k} : WK (hf (.appM sz y) [.hs b z o m, .hs b2 z2 0 m2] h n) k t = WK (get h b2) (fun blk => apM blk sz z2 m2 b b2 fun l => WK (appBL sz y b z o m l (del h b2) n) k t) ⟨⟩ := by
  simp only [hf, WK]
  cases hg : get h b2 with
  | none => simp [W]
  | some blk =>
    cases blk with
    | map es => simp [W, apM]
    | bld T e s => simp [W, apM]
    | rows z' L =>
      simp only [W, apM, Req, true_and]
      by_cases c : z' = sz ∧ z2 = sz ∧ m2 = L.length ∧ 0 < m2 ∧ b2 ≠ b
      · rw [if_pos c]; exact propext ⟨fun hh => ⟨c, hh⟩, fun hh => hh.2⟩
      · rw [if_neg c]; simp only [W]; exact propext ⟨False.elim, fun hh => c hh.1⟩
theorem appB_none {sz y b z o m n : Nat} {h : Heap} {k : V × Heap × Nat → Prop} {t : Tag k} : WK (appB sz y b z o m [] h n) k t = k (.hs b z o m, h, 0) := nr rfl
theorem del_cons {α : Type} {a m : Nat} {x : α} {l : List (Nat × α)} : del ((a, x) :: l) m = if m = a then l else (a, x) :: del l m := nr rfl
theorem del_app {h l : Heap} {n k : Nat} (hl : Low h n) (hk : n ≤ k) : del (h ++ l) k = h ++ del l k := by
  induction h with
  | nil => rfl
  | cons p h ih =>
    obtain ⟨a, x⟩ := p
    have := hl (a, x) (by simp)
    simp only at this
    rw [List.cons_append, del, if_neg (by omega)]
    rw [ih fun q hq => hl q (by simp [hq])]
    rfl
theorem get_low {h l : Heap} {n k : Nat} (hl : Low h n) (ho : get l k = none) : get (h ++ l) k = get h k := by
  induction h with
  | nil => exact ho
  | cons p h ih =>
    obtain ⟨a, x⟩ := p
    rw [List.cons_append, get, get]
    split
    · rfl
    · exact ih fun q hq => hl q (by simp [hq])
def apH (blk : Blk) (sz o2 m2 : Nat) (k : List V → Prop) : Prop := match blk with
  | .rows z l => Req (z = sz ∧ o2 + m2 ≤ l.length) (k ((l.drop o2).take m2))
  | _ => False
theorem apH_rows {z sz o2 m2 : Nat} {l : List V} {k : List V → Prop} : apH (.rows z l) sz o2 m2 k = Req (z = sz ∧ o2 + m2 ≤ l.length) (k ((l.drop o2).take m2)) := nr rfl
theorem hf_appHs {sz y b z o m b2 z2 o2 m2 : Nat} {h : Heap} {n : Nat} {k : V × Heap × Nat → Prop} {t : Tag k} : WK (hf (.appH sz y) [.hs b z o m, .hs b2 z2 o2 (m2 + 1)] h n) k t = Req (z2 = sz) (WK (get h b2) (fun blk => apH blk sz o2 (m2 + 1) fun l => WK (appB sz y b z o m l h n) k t) ⟨⟩) := by
  simp only [hf, WK]
  rw [if_neg (by simp)]
  by_cases e : z2 = sz
  · rw [if_pos e]
    cases hg : get h b2 with
    | none => simp [Req, W]
    | some blk =>
      cases blk with
      | map es => simp [Req, W, apH]
      | bld T e s => simp [Req, W, apH]
      | rows z' L =>
        simp only [W, apH, Req, e, true_and]
        by_cases c : z' = sz ∧ o2 + (m2 + 1) ≤ L.length
        · rw [if_pos c]; simp [W, c]
        · rw [if_neg c]; simp [W, c]
  · rw [if_neg e]
    simp [Req, W, e]
theorem get_set_other {h : Heap} {k j : Nat} {x : Blk} (e : j ≠ k) : get (set h k x) j = get h j := by rw [get_set1, if_neg e]
theorem get_set_same {h : Heap} {k : Nat} {x : Blk} : get (set h k x) k = some x := by rw [get_set1, if_pos rfl]
theorem get_del_other1 : ∀ (h : Heap) {k j : Nat}, j ≠ k → get (del h k) j = get h j
  | [], k, j, e => rfl
  | (a, x) :: h, k, j, e => by
    rw [del]
    split
    · rename_i c; rw [get, if_neg (by omega)]
    · rw [get, get, get_del_other1 h e]
end Go.Proofs.Ytnodepfoahmcmaa.E

/- The engine, part AK: what a call ends in is one thing: so a call in a region whose order is open may be spoken of by a relation. Conditions: none. -/
namespace Go.Proofs.Ytnodepfoahmcmaa.E
set_option linter.unusedVariables false

section
variable {T : Tab}
def One (T : Tab) : Sem3 := fun f v a h n Q => ∃ r h' n', Q r h' n' ∧ Run T f v a h n (fun r2 h2 n2 => r2 = r ∧ h2 = h' ∧ n2 = n')
theorem wpO_one {o : AOp} {K : St → Prop} {st : St} (h : wpO (One T) o K st) : ∃ s, K s ∧ wpO (Run T) o (· = s) st ∧ wpOD (Run T) o (· = s) st := by
  unfold wpO at h
  unfold wpO wpOD
  cases hk : o.k <;> rw [hk] at h <;> simp only at h ⊢
  case call f v args =>
    obtain ⟨h0, Q0, ⟨r, h', n', hq, hr⟩, h2⟩ := h
    obtain ⟨h3, h4⟩ := h2 r h' n' hq
    exact ⟨_, h4, ⟨h0, _, hr, fun r2 hp n2 e => by obtain ⟨rfl, rfl, rfl⟩ := e; exact ⟨h3, rfl⟩⟩, h0, r, _, hr, fun r2 hp n2 e => e.1, h3, rfl⟩
  case callH v x args =>
    cases hx : st.ev x <;> rw [hx] at h <;> simp only at h ⊢ <;> first | (exact h.elim) | skip
    obtain ⟨Q0, ⟨r, h', n', hq, hr⟩, h2⟩ := h
    exact ⟨_, h2 r h' n' hq, ⟨_, hr, fun r2 hp n2 e => by obtain ⟨rfl, rfl, rfl⟩ := e; rfl⟩, r, h', n', _, hr, fun r2 hp n2 e => e, rfl⟩
  all_goals
    cases he : eff o st with
    | none => rw [he] at h; exact h.elim
    | some e => rw [he] at h; exact ⟨_, h, rfl, rfl⟩
theorem wpOD_one {o : AOp} {K : St → Prop} {st : St} (h : wpOD (One T) o K st) : ∃ s, K s ∧ wpO (Run T) o (· = s) st ∧ wpOD (Run T) o (· = s) st := by
  unfold wpOD at h
  unfold wpO wpOD
  cases hk : o.k <;> rw [hk] at h <;> simp only at h ⊢
  case call f v args =>
    obtain ⟨h0, r0, Q0, ⟨r, h', n', hq, hr⟩, h2, h3, h4⟩ := h
    have := h2 r h' n' hq
    subst this
    exact ⟨_, h4, ⟨h0, _, hr, fun r2 hp n2 e => by obtain ⟨rfl, rfl, rfl⟩ := e; exact ⟨h3, rfl⟩⟩, h0, r, _, hr, fun r2 hp n2 e => e.1, h3, rfl⟩
  case callH v x args =>
    cases hx : st.ev x <;> rw [hx] at h <;> simp only at h ⊢ <;> first | (exact h.elim) | skip
    obtain ⟨r0, h0, n0, Q0, ⟨r, h', n', hq, hr⟩, h2, h3⟩ := h
    obtain ⟨rfl, rfl, rfl⟩ := h2 r h' n' hq
    exact ⟨_, h3, ⟨_, hr, fun r2 hp n2 e => by obtain ⟨rfl, rfl, rfl⟩ := e; rfl⟩, r, h', n', _, hr, fun r2 hp n2 e => e, rfl⟩
  all_goals
    cases he : eff o st with
    | none => rw [he] at h; exact h.elim
    | some e => rw [he] at h; exact ⟨_, h, rfl, rfl⟩
theorem wpL_one : ∀ (ops : List AOp) {K : St → Prop} {st : St}, wpL (One T) ops K st → ∃ s, K s ∧ wpL (Run T) ops (· = s) st
  | [], K, st, h => ⟨st, h, rfl⟩
  | o :: r, K, st, h => by
    simp only [wpL] at h ⊢
    cases hg : wantedA st o.guard with
    | none => rw [hg] at h; exact h.elim
    | some b =>
      rw [hg] at h
      cases b with
      | false =>
        obtain ⟨s, h1, h2⟩ := wpL_one r (K := K) (by simpa [W] using h)
        exact ⟨s, h1, by simpa [W] using h2⟩
      | true =>
        have h : wpO (One T) o (wpL (One T) r K) st := by simpa [W] using h
        obtain ⟨s1, h1, h2, _⟩ := wpO_one h
        obtain ⟨s, h3, h4⟩ := wpL_one r h1
        refine ⟨s, h3, ?_⟩
        have := wpO_mono (X := Run T) (Y := Run T) (fun _ _ _ _ _ _ h => h) (K' := wpL (Run T) r (· = s)) (fun st e => by subst e; exact h4) h2
        simpa [W] using this
theorem wpLD_one : ∀ (ops : List AOp) {K : St → Prop} {st : St}, wpLD (One T) ops K st → ∃ s, K s ∧ wpLD (Run T) ops (· = s) st
  | [], K, st, h => ⟨st, h, rfl⟩
  | o :: r, K, st, h => by
    simp only [wpLD] at h ⊢
    cases hg : wantedA st o.guard with
    | none => rw [hg] at h; exact h.elim
    | some b =>
      rw [hg] at h
      cases b with
      | false =>
        obtain ⟨s, h1, h2⟩ := wpLD_one r (K := K) (by simpa [W] using h)
        exact ⟨s, h1, by simpa [W] using h2⟩
      | true =>
        have h : wpOD (One T) o (wpLD (One T) r K) st := by simpa [W] using h
        obtain ⟨s1, h1, _, h2⟩ := wpOD_one h
        obtain ⟨s, h3, h4⟩ := wpLD_one r h1
        refine ⟨s, h3, ?_⟩
        have := wpOD_mono (X := Run T) (Y := Run T) (fun _ _ _ _ _ _ h => h) (K' := wpLD (Run T) r (· = s)) (fun st e => by subst e; exact h4) h2
        simpa [W] using this
def isE (e : AE) (s : St) : AE → St → Prop := fun e' s' => e' = e ∧ s' = s
theorem leR : LeS (Run T) (Run T) := fun _ _ _ _ _ _ h => h
theorem wpC_one : ∀ (c : AC) {Q : AE → St → Prop} {st : St}, wpC (One T) c Q st → ∃ e s, Q e s ∧ wpC (Run T) c (isE e s) st
  | .skip, Q, st, h => ⟨_, _, h, rfl, rfl⟩
  | .reg d ops, Q, st, h => by
    cases d
    · obtain ⟨s, h1, h2⟩ := wpL_one ops (K := Q .normal) h
      exact ⟨.normal, s, h1, wpL_mono leR ops (fun st e => ⟨rfl, e⟩) h2⟩
    · obtain ⟨s, h1, h2⟩ := wpLD_one ops (K := Q .normal) h
      exact ⟨.normal, s, h1, wpLD_mono leR ops (fun st e => ⟨rfl, e⟩) h2⟩
  | .seq a b, Q, st, h => by
    obtain ⟨e, s, h1, h2⟩ := wpC_one a h
    cases e with
    | normal =>
      obtain ⟨e2, s2, h3, h4⟩ := wpC_one b h1
      exact ⟨e2, s2, h3, wpC_mono leR a (fun e' s' he => by obtain ⟨rfl, rfl⟩ := he; exact h4) h2⟩
    | exit i => exact ⟨_, s, h1, wpC_mono leR a (fun e' s' he => by obtain ⟨rfl, rfl⟩ := he; exact ⟨rfl, rfl⟩) h2⟩
    | ret => exact ⟨_, s, h1, wpC_mono leR a (fun e' s' he => by obtain ⟨rfl, rfl⟩ := he; exact ⟨rfl, rfl⟩) h2⟩
  | .cut ke kl a, Q, st, h => by
    obtain ⟨e, s, h1, h2⟩ := wpC_one a h
    cases e with
    | normal => exact ⟨_, _, h1, wpC_mono leR a (fun e' s' he => by obtain ⟨rfl, rfl⟩ := he; exact ⟨rfl, rfl⟩) h2⟩
    | exit i => exact ⟨_, _, h1, wpC_mono leR a (fun e' s' he => by obtain ⟨rfl, rfl⟩ := he; exact ⟨rfl, rfl⟩) h2⟩
    | ret => exact ⟨_, _, h1, wpC_mono leR a (fun e' s' he => by obtain ⟨rfl, rfl⟩ := he; exact ⟨rfl, rfl⟩) h2⟩
  | .cond c x y, Q, st, h => by
    simp only [wpC] at h ⊢
    cases hb : st.ev c <;> rw [hb] at h <;> simp only at h ⊢ <;> first | (exact h.elim) | skip
    rename_i b
    cases b
    · obtain ⟨e, s, h1, h2⟩ := wpC_one y (Q := Q) (by simpa using h)
      exact ⟨e, s, h1, by simpa using h2⟩
    · obtain ⟨e, s, h1, h2⟩ := wpC_one x (Q := Q) (by simpa using h)
      exact ⟨e, s, h1, by simpa using h2⟩
  | .block id c, Q, st, h => by
    obtain ⟨e, s, h1, h2⟩ := wpC_one c h
    cases e with
    | normal => exact ⟨_, _, h1, wpC_mono leR c (fun e' s' he => by obtain ⟨rfl, rfl⟩ := he; exact ⟨rfl, rfl⟩) h2⟩
    | ret => exact ⟨_, _, h1, wpC_mono leR c (fun e' s' he => by obtain ⟨rfl, rfl⟩ := he; exact ⟨rfl, rfl⟩) h2⟩
    | exit i =>
      simp only at h1
      by_cases hi : i = id
      · rw [if_pos hi] at h1
        exact ⟨_, _, h1, wpC_mono leR c (fun e' s' he => by obtain ⟨rfl, rfl⟩ := he; simp only; rw [if_pos hi]; exact ⟨rfl, rfl⟩) h2⟩
      · rw [if_neg hi] at h1
        exact ⟨_, _, h1, wpC_mono leR c (fun e' s' he => by obtain ⟨rfl, rfl⟩ := he; simp only; rw [if_neg hi]; exact ⟨rfl, rfl⟩) h2⟩
  | .loop ke kl c, Q, st, h => by
    refine h (fun st => ∃ e s, Q e s ∧ ∀ L : St → Prop, (∀ st, wpC (Run T) c (fun e' st' => match e' with | .normal => L (st'.norm ke kl) | e' => isE e s e' st') st → L st) → L st) fun st hst => ?_
    obtain ⟨e1, s1, h1, h2⟩ := wpC_one c hst
    cases e1 with
    | normal =>
      obtain ⟨e, s, h3, h4⟩ := h1
      exact ⟨e, s, h3, fun L hL => hL st (wpC_mono leR c (fun e' s' he => by obtain ⟨rfl, rfl⟩ := he; exact h4 L hL) h2)⟩
    | exit i => exact ⟨_, _, h1, fun L hL => hL st (wpC_mono leR c (fun e' s' he => by obtain ⟨rfl, rfl⟩ := he; exact ⟨rfl, rfl⟩) h2)⟩
    | ret => exact ⟨_, _, h1, fun L hL => hL st (wpC_mono leR c (fun e' s' he => by obtain ⟨rfl, rfl⟩ := he; exact ⟨rfl, rfl⟩) h2)⟩
  | .exit id, Q, st, h => ⟨_, _, h, rfl, rfl⟩
  | .ret, Q, st, h => ⟨_, _, h, rfl, rfl⟩
/-- What a call ends in is one thing. -/
theorem Run.one {f v : Nat} {a : List V} {h : Heap} {n : Nat} {Q : V → Heap → Nat → Prop} (hr : Run T f v a h n Q) : ∃ r h' n', Q r h' n' ∧ Run T f v a h n (fun r2 h2 n2 => r2 = r ∧ h2 = h' ∧ n2 = n') := by
  refine hr (One T) fun f v a h n Q hp => ?_
  unfold Phi at hp
  rcases hp with hp | hp
  · cases he : T.ext f a h n with
    | none => rw [he] at hp; exact hp.elim
    | some q => rw [he] at hp; exact ⟨_, _, _, hp, run_ext he⟩
  · cases hF : T.fn f v with
    | none => rw [hF] at hp; exact hp.elim
    | some F =>
      rw [hF] at hp
      obtain ⟨hl, hw⟩ := hp
      obtain ⟨e, s, h1, h2⟩ := wpC_one F.code hw
      have fin : W (resL s F.res) (fun rs => Q (outV rs) s.heap s.ctr) → (e = .normal ∨ e = .ret) → One T f v a h n Q := fun hw he => by
        cases hy : resL s F.res with
        | none => rw [hy] at hw; exact hw.elim
        | some rs =>
          rw [hy] at hw
          refine ⟨_, _, _, hw, Run.fold T (.inr ?_)⟩
          rw [hF]
          refine ⟨hl, wpC_mono leR F.code (fun e' s' hh => ?_) h2⟩
          obtain ⟨rfl, rfl⟩ := hh
          rcases he with rfl | rfl
          · simp only [hy, W, and_self]
          · simp only [hy, W, and_self]
      cases e with
      | normal => exact fin h1 (.inl rfl)
      | ret => exact fin h1 (.inr rfl)
      | exit i => exact h1.elim
theorem CallHD.any {f v : Nat} {cap args : List V} {hp : Heap} {n : Nat} {k : V → Heap → Nat → Prop} {t : Tag k} {R : V → Heap → Nat → Prop} (hX : Run T f v (args ++ cap.map clr) hp n R) (hk : ∀ r h m, R r h m → k r h m) : CallHD (Run T) v (.fn f cap) args hp n k t := by
  obtain ⟨r, h', n', h1, h2⟩ := hX.one
  exact ⟨r, h', n', _, h2, fun r' h2 n2 e => e, hk _ _ _ h1⟩
theorem CallD.any {f v : Nat} {args : List V} {k : V → Prop} {t : Tag k} {R : V → Prop} (ha : args.all noH = true) (hX : Run T f v args [] 0 (fun r _ _ => R r)) (hk : ∀ r, R r → noH r = true ∧ k r) : CallD (Run T) f v args k t := by
  obtain ⟨r, h', n', h1, h2⟩ := hX.one
  exact ⟨ha, r, _, h2, fun r' h2 n2 e => e.1, (hk r h1).1, (hk r h1).2⟩
end
end Go.Proofs.Ytnodepfoahmcmaa.E

/- The engine, part AL: functions of the library of which a contract is known: what a contract must say. Conditions: none. -/
namespace Go.Proofs.Ytnodepfoahmcmaa.E
open Go.RowKit
set_option linter.unusedVariables false
set_option linter.unusedSimpArgs false

section
variable {P : Program} {w w' : World} {G G' : Nat → Nat} {φ : Nat → Option Nat} {xs : List V} {vs : List Value} {heap : Heap} {n : Nat} {r : V} {u : Value}
/-- A call that makes something and leaves the blocks as they are. -/
theorem HRes.of_mk (h : HPre w G φ xs vs heap n) (hm : Mk w G φ xs vs r w' G' u) : HRes w G φ xs vs heap n r heap n u w' G' φ := by
  have hlt : ∀ p ∈ heap, ∀ c, lv w φ c p ≠ 0 → c < w.heap.size ∧ vtk xs vs c = 0 := fun p hp c hc => by
    have h1 := le_sum (f := lv w φ c) hp
    have h2 : cntH w φ heap c ≠ 0 := by unfold cntH; omega
    have h3 := h.cnt c
    refine ⟨?_, by omega⟩
    rcases Nat.lt_or_ge c w.heap.size with hl | hl
    · exact hl
    · have := vtk_big h hl; omega
  have hlv : ∀ p ∈ heap, ∀ q, lv w' φ q p = lv w φ q p := fun p hp q => by
    obtain ⟨k, hk, _⟩ := (h.reps p hp).lt
    have h1 := hlt p hp k (by have := lv_self (w := w) (blk := p.2) hk; show lv w φ k (p.1, p.2) ≠ 0; omega)
    exact lv_congr hk hk (hm.same k h1.1 h1.2).1 q
  have hcnt : ∀ q, cntH w' φ heap q = cntH w φ heap q := fun q => by
    unfold cntH
    rw [List.map_congr_left fun p hp => hlv p hp q]
  refine ⟨hm.r, hm.tail, fun p hp => (h.reps p hp).mono hm.ext (fun _ _ h => h) fun c hc => hm.same c (hlt p hp c hc).1 (hlt p hp c hc).2, h.sorted, fun b => ?_, h.ctr, Nat.le_refl _, hm.zero, hm.ext, fun _ _ h => h, fun b hb h0 => ?_⟩
  · have h1 := hm.tk b
    have h2 := h.cnt b
    rw [hcnt]
    split at h1
    · rename_i hl
      have := vtk_big h hl; omega
    · omega
  · have h1 := hm.tk b
    rw [if_neg (by omega)] at h1
    have h2 := hm.same b hb (by omega)
    exact ⟨h2.1, h2.2, by rw [hcnt]; omega⟩
/-- A row that the call made. -/
theorem Mk.own {el : TypeId} {sz : Nat} {l : List V} {news : List Value} (hB : Below w.heap.size w w') (hz : ∀ i (h : i < l.length), (l[i]).cells.length = sz)
    (hr : ∀ i j (h : i < l.length) (hj : j < (l[i]).cells.length), R w G (fun _ => none) ((l[i]).cells[j]) (news.getD (i * sz + j) undef)) (h1 : ∀ u ∈ news, u.oneCell' = true)
    (ho : w'.ownsRow w.heap.size el sz u l.length news) (hg : ∀ b, w.heap.size ≤ b → G b = 0) : ∃ G', Mk w G φ xs vs (.sl true sz l) w' G' u := by
  obtain ⟨hl, ho⟩ := ho
  rcases ho with ⟨rfl, h0⟩ | ⟨g, cap, cur, rfl, hge, hh, hcap, hmax, hsz, htk⟩
  · have : l = [] := List.eq_nil_of_length_eq_zero h0
    subst this
    refine ⟨G, ⟨⟨fun _ => Nat.le_refl _, fun b o ho => ?_, fun b c e f hb => ⟨c, f, ?_, rfl, .inl rfl⟩, hB.size, hB.os, hB.tape, hB.output⟩, .slNil _ _ _ _ _, fun p hp => ?_, fun b => ?_, fun b hb _ => ⟨hB.block b hb, rfl⟩, fun b hb => hg b (Nat.le_trans hB.size hb)⟩⟩
    · rcases Nat.lt_or_ge b w.heap.size with hlt | hge
      · exact cell_same (hB.block b hlt) o
      · rw [hg b hge] at ho; omega
    · rcases Nat.lt_or_ge b w.heap.size with hlt | hge
      · rw [hB.block b hlt, hb]
      · rw [Array.getElem?_eq_none hge] at hb; cases hb
    · rw [leaves_sl, List.mem_singleton] at hp
      subst hp
      rfl
    · rw [tk_sl]; simp [tk1]
  · have hlt : g < w'.heap.size := by
      rcases Nat.lt_or_ge g w'.heap.size with h | h
      · exact h
      · rw [Array.getElem?_eq_none h] at hh; cases hh
    have hext : Ext w G w' (fun b => if b = g then l.length * sz else G b) := by
      refine ⟨fun b => ?_, fun b o ho => ?_, fun b c e f hb => ⟨c, f, ?_, rfl, .inl rfl⟩, hB.size, hB.os, hB.tape, hB.output⟩
      · try dsimp only
        split
        · rename_i e; rw [e, hg _ hge]; exact Nat.zero_le _
        · exact Nat.le_refl _
      · rcases Nat.lt_or_ge b w.heap.size with hlt | hge
        · exact cell_same (hB.block b hlt) o
        · rw [hg b hge] at ho; omega
      · rcases Nat.lt_or_ge b w.heap.size with hlt | hge
        · rw [hB.block b hlt, hb]
        · rw [Array.getElem?_eq_none hge] at hb; cases hb
    have hle : l.length * sz ≤ cap * sz := Nat.mul_le_mul_right _ hcap
    have hcell : ∀ q, q < l.length * sz → w'.cell? ⟨g, q, none⟩ = some (news.getD q undef) := fun q hq => by
      rw [cell_of_row w' g q cur el (0, 0) hh]
      have h2 : (cur.toList.take (l.length * sz))[q]? = news[q]? := by rw [htk]
      rw [List.getElem?_take_of_lt hq, Array.getElem?_toList] at h2
      rw [h2, List.getD_eq_getElem?_getD, List.getElem?_eq_getElem (by omega)]
      rfl
    refine ⟨fun b => if b = g then l.length * sz else G b, ⟨hext, ?_, ?_, fun b => ?_, fun b hb _ => ⟨hB.block b hb, if_neg (by omega)⟩, fun b hb => (if_neg (by omega)).trans (hg b (Nat.le_trans hB.size hb))⟩⟩
    · refine .sl _ _ sz l _ 0 cap (fun i j => news.getD (i * sz + j) undef) hcap (fun i j hi hj => ?_) (fun i j hi hj => ?_) hz (fun i j hi hj => (hr i j hi hj).mono hext fun _ _ h => h) (by simp)
      · have : (i + 1) * sz ≤ l.length * sz := Nat.mul_le_mul_right _ hi
        rw [Nat.succ_mul] at this
        rw [show 0 + i * sz + j = i * sz + j by omega]
        exact hcell _ (by omega)
      · have : (i + 1) * sz ≤ l.length * sz := Nat.mul_le_mul_right _ hi
        rw [Nat.succ_mul] at this
        rw [List.getD_eq_getElem?_getD, List.getElem?_eq_getElem (by omega)]
        exact h1 _ (List.getElem_mem _)
    · intro p hp
      rw [leaves_sl, List.mem_singleton] at hp
      subst hp
      intro _
      exact ⟨rfl, ⟨cur, el, (0, 0), hh, by show 0 + cap * sz ≤ cur.size; omega, fun o _ hc => by simp at hc⟩, by simp⟩
    · rw [tk_sl]
      simp only [tk1]
      split
      · rename_i h
        rw [if_pos (by omega)]; omega
      · omega
/-- The library's Clone of a row, out of its contract. -/
theorem xs_clone {f v : Nat} {el : TypeId} {sz bytes : Nat} (he : entersB P f = true)
    (c1 : ∀ (b off n c : Nat) (news : List Value) (w : World), news.length = n * sz → n ≤ maxLen → n * bytes ≤ 140737488355328 → (∀ j u, news[j]? = some u → w.cell? ⟨b, off + j, none⟩ = some u) → (∀ u ∈ news, u.oneCell' = true) → Calls P f #[.slice (some ⟨b, off, none⟩) n c] w fun e w' => ∃ v', e = .returned v' ∧ w'.ownsRow w.heap.size el sz v' n news ∧ v' ≠ .slice none 0 0 ∧ Below w.heap.size w w')
    (c2 : ∀ (n c : Nat) (w : World), Calls P f #[.slice none n c] w fun e w' => e = .returned (.slice none 0 0) ∧ w' = w)
    (c3 : ∀ (a : Addr) (c : Nat) (w : World), Calls P f #[.slice (some a) 0 c] w fun e w' => ∃ v', e = .returned v' ∧ w'.ownsRow w.heap.size el sz v' 0 [] ∧ v' ≠ .slice none 0 0 ∧ Below w.heap.size w w')
    (o : Bool) (l : List V) (hl : l.length * bytes ≤ 140737488355328) (hm : l.length ≤ maxLen) {heap : Heap} {n : Nat} : XS P f v [.sl o sz l] heap n (fun r h' n' => r = .sl true sz l ∧ h' = heap ∧ n' = n) := by
  refine ⟨he, fun w G φ vs hp => ?_⟩
  obtain ⟨u, rfl, hR⟩ : ∃ u, vs = [u] ∧ R w G φ (.sl o sz l) u := by
    cases hp.ok with
    | cons h t => cases t; exact ⟨_, rfl, h.1⟩
  obtain ⟨a, m, cap, rfl⟩ : ∃ a m cap, u = .slice a m cap := by
    cases hR with
    | slNil => exact ⟨_, _, _, rfl⟩
    | sl => exact ⟨_, _, _, rfl⟩
  obtain ⟨rfl, hb, news, n1, n2, n3, n4, n5⟩ := sl_news hR
  have fin : ∀ (w' : World) (v' : Value), Below w.heap.size w w' → w'.ownsRow w.heap.size el sz v' l.length news →
      ∃ r u2 heap' n' G' φ', (Ending.returned v' : Ending) = .returned u2 ∧ (r = .sl true sz l ∧ heap' = heap ∧ n' = n) ∧ HRes w G φ [.sl o sz l] [.slice a l.length cap] heap n r heap' n' u2 w' G' φ' := fun w' v' k1 k2 => by
    obtain ⟨G', hm⟩ := Mk.own (φ := φ) (xs := [.sl o sz l]) (vs := [.slice a l.length cap]) k1 n4 n5 n2 k2 hp.zero
    exact ⟨_, v', heap, n, G', φ, rfl, ⟨rfl, rfl, rfl⟩, HRes.of_mk hp hm⟩
  rcases hb with rfl | ⟨blk, off, rfl, hcap⟩
  · have : news = [] := List.eq_nil_of_length_eq_zero (by simpa using n1)
    subst this
    cases a with
    | none =>
      refine (c2 0 cap w).mono ?_
      rintro e w' ⟨rfl, rfl⟩
      exact fin _ _ (Below.refl _ _) (World.ownsRow_nil _ _ _ _)
    | some a =>
      refine (c3 a cap w).mono ?_
      rintro e w' ⟨v', rfl, k1, _, k2⟩
      exact fin _ _ k2 k1
  · refine (c1 blk off l.length cap news w n1 hm hl (fun j u hu => by rw [← n3 _ rfl j u hu, add_none]) n2).mono ?_
    rintro e w' ⟨v', rfl, k1, _, k2⟩
    exact fin _ _ k2 k1
/-- A search for one byte. -/
theorem xs_index {f v : Nat} (he : entersB P f = true) {ix : List UInt8 → UInt8 → Int} (c1 : ∀ (s : ByteArray) (c : UInt8) (w : World), Calls P f #[.string s, .string ⟨#[c]⟩] w fun e w' => e = .returned (.int .i64 (ix s.data.toList c)) ∧ w' = w) (s : List UInt8) (c : UInt8) {heap : Heap} {n : Nat} :
    XS P f v [.str s, .str [c]] heap n (fun r h' n' => r = .int .i64 (ix s c) ∧ h' = heap ∧ n' = n) := by
  refine xs_pure he rfl fun w G φ vs hp => ?_
  obtain ⟨u1, u2, rfl, h1, h2⟩ : ∃ u1 u2, vs = [u1, u2] ∧ R w G φ (.str s) u1 ∧ R w G φ (.str [c]) u2 := by
    cases hp with
    | cons h t =>
      cases t with
      | cons h' t' => cases t'; exact ⟨_, _, rfl, h, h'⟩
  generalize hd : [c] = d at h2
  cases h1 with
  | str _ s =>
    cases h2 with
    | str _ t =>
      obtain ⟨⟨t⟩⟩ := t
      simp only at hd
      subst hd
      refine (c1 s c w).mono ?_
      rintro e w' ⟨rfl, rfl⟩
      exact ⟨_, rfl, rfl, .int _ _ _⟩
end
end Go.Proofs.Ytnodepfoahmcmaa.E

/- The engine, part AM: strings.Builder as a block: what its functions' contracts must say, and that they are sound. Conditions: none. -/
namespace Go.Proofs.Ytnodepfoahmcmaa.E
open Go.RowKit Go.Lib
set_option linter.unusedVariables false
set_option linter.unusedSimpArgs false

section
variable {P : Program} {w w' : World} {G G' : Nat → Nat} {φ : Nat → Option Nat} {xs : List V} {vs : List Value} {heap : Heap} {n : Nat} {r : V} {u : Value}

/-- One block is laid anew, with all that it owns. -/
theorem HRes.upd2 {b : Nat} {blk blk' : Blk} (h : HPre w G φ xs vs heap n) (hg : get heap b = some blk) (hext : Ext w G w' G') (hfar : ∀ c, c < w.heap.size → lv w φ c (b, blk) = 0 → w'.heap[c]? = w.heap[c]? ∧ G' c = G c) (hz : ∀ c, w'.heap.size ≤ c → G' c = 0)
    (hrep : BlkRep w' G' φ b blk') (hlv : ∀ q, lv w' φ q (b, blk') ≤ (if w.heap.size ≤ q then 1 else lv w φ q (b, blk))) (hr : R w' G' φ r u) (ht : Tail w' G' r u) (hk : ∀ q, tk r u q = 0) : HRes w G φ xs vs heap n r (set heap b blk') n u w' G' φ := by
  have hs3 : Sorted (del heap b) := h.sorted.sublist (del_sublist _ _)
  have hin : ∀ p ∈ del heap b, p ∈ heap := fun p hp => (del_sublist heap b).subset hp
  have hlt : ∀ p ∈ heap, ∀ c, lv w φ c p ≠ 0 → c < w.heap.size := fun p hp c hc => by
    rcases Nat.lt_or_ge c w.heap.size with hl | hl
    · exact hl
    · have h1 := vtk_big h hl
      have h2 : lv w φ c (p.1, p.2) ≤ (heap.map (lv w φ c)).sum := le_sum (f := lv w φ c) hp
      unfold cntH at h1
      have : lv w φ c (p.1, p.2) ≠ 0 := hc
      omega
  have hself : ∀ q, w.heap.size ≤ q → lv w φ q (b, blk) = 0 := fun q hq => by
    rcases Nat.eq_zero_or_pos (lv w φ q (b, blk)) with e | e
    · exact e
    · have := hlt _ (get_mem hg) q (Nat.pos_iff_ne_zero.1 e); omega
  have hsumd : ∀ q, ((del heap b).map (lv w φ q)).sum + lv w φ q (b, blk) = cntH w φ heap q := fun q => sum_del (lv w φ q) hg
  have hoth : ∀ p ∈ del heap b, ∀ c, lv w φ c p ≠ 0 → w'.heap[c]? = w.heap[c]? ∧ G' c = G c := fun p hp c hc => by
    refine hfar c (hlt p (hin p hp) c hc) ?_
    have h1 := hsumd c
    have h2 : lv w φ c (p.1, p.2) ≤ ((del heap b).map (lv w φ c)).sum := le_sum (f := lv w φ c) hp
    have h3 := h.cnt c
    have h4 : lv w φ c (p.1, p.2) ≠ 0 := hc
    omega
  have hlvs : ∀ p ∈ del heap b, ∀ q, lv w' φ q p = lv w φ q p := fun p hp q => by
    obtain ⟨k, hk, _⟩ := (h.reps p (hin p hp)).lt
    refine lv_congr hk hk (hoth p hp k ?_).1 q
    have := lv_self (w := w) (blk := p.2) hk
    show lv w φ k (p.1, p.2) ≠ 0
    omega
  have hcnt : ∀ q, cntH w' φ (set heap b blk') q + lv w φ q (b, blk) = cntH w φ heap q + lv w' φ q (b, blk') := fun q => by
    have h1 := sum_set (lv w' φ q) h.sorted b blk'
    rw [hg] at h1
    simp only at h1
    have h2 := sum_del (lv w' φ q) hg
    have h3 : ((del heap b).map (lv w' φ q)).sum = ((del heap b).map (lv w φ q)).sum := sum_congr fun p hp => hlvs p hp q
    have h4 := hsumd q
    unfold cntH at *
    omega
  have hlvr : ∀ p ∈ set heap b blk', p = (b, blk') ∨ p ∈ del heap b := fun p hp => by
    rcases mem_set h.sorted hp with rfl | ⟨hp, hne⟩
    · exact .inl rfl
    · refine .inr ?_
      have e1 := get_of_mem h.sorted (show (p.1, p.2) ∈ heap from hp)
      have : ∀ (l : Heap), get l p.1 = some p.2 → get (del l b) p.1 = some p.2 := by
        intro l
        induction l with
        | nil => intro h; cases h
        | cons a l ih =>
          obtain ⟨a1, a2⟩ := a
          intro hh
          simp only [del]
          split
          · rename_i eq; subst eq; rw [get, if_neg hne] at hh; exact hh
          · rw [get] at hh ⊢
            split
            · rename_i eq; rw [if_pos eq] at hh; exact hh
            · rename_i eq; rw [if_neg eq] at hh; exact ih hh
      exact get_mem (this heap e1)
  refine ⟨hr, ht, fun p hp => ?_, set_sorted h.sorted _ _, fun q => ?_, h.ctr, Nat.le_refl _, hz, hext, fun _ _ h => h, fun q hq h0 => ?_⟩
  · rcases hlvr p hp with rfl | hp
    · exact hrep
    · exact (h.reps p (hin p hp)).mono hext (fun _ _ h => h) fun c hc => hoth p hp c hc
  · rw [hk q]
    have h1 := hcnt q
    have h2 := hlv q
    have h3 := h.cnt q
    split at h2
    · rename_i hq
      have := vtk_big h hq
      have := hself q hq
      omega
    · omega
  · have h1 := hcnt q
    have h2 := hlv q
    rw [if_neg (by omega)] at h2
    have h3 := lv_le (w := w) (φ := φ) hg q
    obtain ⟨a1, a2⟩ := hfar q hq (by omega)
    exact ⟨a1, a2, by rw [hk q]; omega⟩

/-- Bytes as cells. -/
abbrev bC (s : List UInt8) : List Value := s.map fun b => Value.int .u8 b.toNat
/-- What becomes of memory when a builder is written. -/
structure BStep (T e : TypeId) (m : Nat) (w : World) (v : Value) (s' : List UInt8) (w' : World) : Prop where
  os : w'.os = w.os
  tape : w'.tape = w.tape
  output : w'.output = w.output
  size : w.heap.size ≤ w'.heap.size
  out : ∃ v', w'.heap[m]? = some (.cells #[.pointer (some ⟨m, 0, none⟩), v'] T (0, 0)) ∧ Buf w' (fun _ => 0) e s' m v' ∧ ∀ g, v'.ownBlock = some g → v.ownBlock = some g ∨ w.heap.size ≤ g
  far : ∀ c, c < w.heap.size → c ≠ m → v.ownBlock ≠ some c → w'.heap[c]? = w.heap[c]?
  buf : ∀ g cur, v.ownBlock = some g → w.heap[g]? = some (.cells cur e (0, 0)) → ∃ cur', w'.heap[g]? = some (.cells cur' e (0, 0)) ∧ cur'.size = cur.size

theorem Buf.weaken {e : TypeId} {s : List UInt8} {m : Nat} {v : Value} (h : Buf w G e s m v) : Buf w (fun _ => 0) e s m v := by
  rcases h with h | ⟨g, cap, cur, k0, k1, k2, k3, k⟩
  · exact .inl h
  · exact .inr ⟨g, cap, cur, k0, k1, k2, rfl, k⟩
theorem Buf.own {e : TypeId} {s : List UInt8} {m : Nat} {v : Value} (h : Buf w G e s m v) : w.ownsRow 0 e 1 v s.length (bC s) := by
  rcases h with ⟨rfl, rfl⟩ | ⟨g, cap, cur, rfl, k1, k2, k3, k4, k5, k6, k7, k8⟩
  · exact World.ownsRow_nil w 0 e 1
  · exact ⟨by simp, .inr ⟨g, cap, cur, rfl, Nat.zero_le _, k4, k5, k6, by omega, by rw [Nat.mul_one]; exact k8⟩⟩

/-- Bytes are appended to a builder's buffer. -/
theorem run_buf {t u ty e : TypeId} {i : TypeInfo} (ht : P.underlying t = some (.slice e)) (hu : P.underlying u = some .string) (hi : P.info? e = some i) (hz : i.zero = some (.int .u8 0)) (hsize : i.size = 1) (hby : i.bytes = 1)
    {s : List UInt8} {m : Nat} {v : Value} (hb : Buf w (fun _ => 0) e s m v) (x : ByteArray) (hl : s.length + x.size ≤ LIM) (hm : m < w.heap.size) :
    ∃ v' w', (Builtin.append_ #[t, u] ty #[v, .string x]).run P w = .ok v' w' ∧ Buf w' (fun _ => 0) e (s ++ x.data.toList) m v' ∧ (∀ g, v'.ownBlock = some g → v.ownBlock = some g ∨ w.heap.size ≤ g) ∧
      w'.os = w.os ∧ w'.tape = w.tape ∧ w'.output = w.output ∧ w.heap.size ≤ w'.heap.size ∧ (∀ c, c < w.heap.size → v.ownBlock ≠ some c → w'.heap[c]? = w.heap[c]?) ∧
      (∀ g cur, v.ownBlock = some g → w.heap[g]? = some (.cells cur e (0, 0)) → ∃ cur', w'.heap[g]? = some (.cells cur' e (0, 0)) ∧ cur'.size = cur.size) ∧ ∃ a k c, v' = .slice a k c := by
  have hmax : maxLen = 9223372036854775807 := rfl
  have hxs : x.size = x.data.toList.length := by rw [Array.length_toList]; rfl
  unfold LIM at hl
  rcases hb with ⟨rfl, rfl⟩ | ⟨g, cap, cur, rfl, k1, k2, k3, k4, k5, k6, k7, k8⟩
  · obtain ⟨v', w', hr, h2, h3, h4⟩ := run_append_own_string (P := P) w w.heap.size t u ty e i ht hu hi hz hsize hby (.slice none 0 0) 0 [] (World.ownsRow_nil w _ _ _) x (by simp only [List.length_nil] at hl; omega) (by simp only [List.length_nil] at hl; omega) (Nat.le_refl _)
    refine ⟨v', w', hr, ?_, fun g hg => .inr ?_, h3.os, h3.tape, h3.output, h3.size, fun c hc _ => h3.block c hc (by simp [Value.ownBlock]), fun g cur hg => by simp [Value.ownBlock] at hg, ?_⟩
    · rcases h2.2 with ⟨rfl, h0⟩ | ⟨g, cap, cur, rfl, q1, q2, q3, q4, q5, q6⟩
      · have : x.size = 0 := by omega
        refine .inl ⟨rfl, ?_⟩
        rw [List.nil_append]
        exact List.eq_nil_of_length_eq_zero (by omega)
      · have hne : x.size ≠ 0 := fun h0 => by
          have := h4.2 ⟨rfl, h0⟩
          cases this
        refine .inr ⟨g, cap, cur, ?_, by omega, by omega, rfl, q2, ?_, q4, by omega, ?_⟩
        · rw [List.nil_append, ← hxs, Nat.zero_add]
        · simp only [List.nil_append]; omega
        · rw [Nat.mul_one] at q6
          simp only [List.nil_append, strCells] at q6 ⊢
          rw [← hxs, ← q6, Nat.zero_add]
    · rcases h2.2 with ⟨rfl, _⟩ | ⟨g', cap, cur, rfl, q1, _⟩
      · simp [Value.ownBlock] at hg
      · simp [Value.ownBlock] at hg; omega
    · rcases h2.2 with ⟨rfl, _⟩ | ⟨g', cap, cur, rfl, q1, _⟩
      · exact ⟨_, _, _, rfl⟩
      · exact ⟨_, _, _, rfl⟩
  · have hglt : g < w.heap.size := (Array.getElem?_eq_some_iff.1 k4).1
    have hob : ∀ a b c : Nat, (Value.slice (some ⟨a, 0, none⟩) b c).ownBlock = some a := fun _ _ _ => rfl
    have hcells : (s.map fun b => Value.int .u8 b.toNat).length = s.length := by simp
    have hstr : strCells x = x.data.toList.map fun b => Value.int .u8 b.toNat := rfl
    by_cases hroom : s.length + x.size ≤ cap
    · have hr := run_append_room_string (P := P) w t u ty e i ht hu hi hsize g s.length cap cur k4 x hroom (by omega)
      have hset := setRow_heap w g cur (cur.toList.take s.length ++ strCells x ++ cur.toList.drop (s.length + x.size)).toArray e _ k4
      refine ⟨_, _, hr, .inr ⟨g, cap, _, by rw [List.length_append, ← hxs], k1, k2, rfl, hset, by rw [List.length_append, ← hxs]; exact hroom, k6, ?_, ?_⟩, fun q hq => .inl (by rw [hob] at hq ⊢; exact hq), rfl, rfl, rfl, by simp [World.setRow], fun c _ hc => setRow_other w g c _ (fun e => hc (by rw [hob, e])), fun q cc hq hcc => ?_, _, _, _, rfl⟩
      · simp only [List.size_toArray, List.length_append, List.length_take, List.length_drop, Array.length_toList, strCells_length]
        omega
      · rw [k8, List.map_append, List.length_append, ← hxs, hstr]
        have : s.length + x.size = ((s.map fun b => Value.int .u8 b.toNat) ++ (x.data.toList.map fun b => Value.int .u8 b.toNat)).length := by rw [List.length_append, List.length_map, List.length_map, ← hxs]
        rw [this]
        exact List.take_left
      · rw [hob] at hq; injection hq with hq; subst hq
        rw [k4] at hcc; injection hcc with hcc; injection hcc with e1
        subst e1
        exact ⟨_, hset, by
          simp only [List.size_toArray, List.length_append, List.length_take, List.length_drop, Array.length_toList, strCells_length]
          omega⟩
    · have hown : w.ownsRow 0 e 1 (.slice (some ⟨g, 0, none⟩) s.length cap) s.length (bC s) := Buf.own (G := fun _ => 0) (m := m) (.inr ⟨g, cap, cur, rfl, k1, k2, rfl, k4, k5, k6, k7, k8⟩)
      have holds := hown.cells (g := g) rfl
      have hr := run_append_grow_string (P := P) w t u ty e i (.int .u8 0) ht hu hi hz ⟨g, 0, none⟩ s.length cap (bC s) (by rw [hsize]; simp) holds x (by omega) (by omega) (by rw [hby]; exact growslice_fits (by omega) (by omega))
      have hge := grownCap_ge w (s.length + x.size) cap e
      have hcm : grownCap w (s.length + x.size) cap e ≤ maxLen := grownCap_le_maxLen w (s.length + x.size) cap e (by omega)
      refine ⟨_, _, hr, .inr ⟨w.heap.size, _, _, by rw [List.length_append, ← hxs], by omega, by omega, rfl, heap_alloc_new w.drew _, by rw [List.length_append, ← hxs]; exact hge, hcm, ?_, ?_⟩, fun q hq => .inr (by rw [hob] at hq; injection hq with hq; omega), rfl, rfl, rfl, by simp, fun c hc _ => heap_alloc_old w.drew _ hc, fun q cc hq hcc => ⟨cc, by rw [heap_alloc_old w.drew _ (by rw [hob] at hq; injection hq with hq; subst hq; exact hglt)]; exact hcc, rfl⟩, _, _, _, rfl⟩
      · have hz1 : (Value.int IntKind.u8 0).cells.size = 1 := rfl
        have hbl : (bC s).length = s.length := by simp
        simp only [Array.size_append, List.size_toArray, size_zeroCells, hz1, hbl, strCells_length]
        omega
      · rw [List.map_append, List.length_append, ← hxs]
        simp only [Array.toList_append, List.append_assoc]
        rw [← List.append_assoc, hstr]
        have : s.length + x.size = (bC s ++ (x.data.toList.map fun b => Value.int .u8 b.toNat)).length := by rw [List.length_append, List.length_map, List.length_map, ← hxs]
        rw [this]
        exact List.take_left
/-- The same, at the operation. -/
theorem wpList_buf {ops : Array Oper} {rest : List Oper} {o : Oper} {a : Act} {Q : Exit → Act → World → Prop} (hgd : o.guard = none) (sl x : Operand) (t u : TypeId) (ho : o.op = .call { callee := .builtin .append, args := #[sl, x], argTypes := #[t, u] })
    (e : TypeId) (i : TypeInfo) (ht : P.underlying t = some (.slice e)) (hu : P.underlying u = some .string) (hi : P.info? e = some i) (hz : i.zero = some (.int .u8 0)) (hsize : i.size = 1) (hby : i.bytes = 1)
    (s : List UInt8) (m : Nat) (v : Value) (hs : a.eval sl = v) (hb : Buf w (fun _ => 0) e s m v) (y : ByteArray) (hx : a.eval x = .string y) (hl : s.length + y.size ≤ LIM) (hm : m < w.heap.size)
    (h : ∀ v' w', Buf w' (fun _ => 0) e (s ++ y.data.toList) m v' → (∀ g, v'.ownBlock = some g → v.ownBlock = some g ∨ w.heap.size ≤ g) → w'.os = w.os → w'.tape = w.tape → w'.output = w.output → w.heap.size ≤ w'.heap.size → (∀ c, c < w.heap.size → v.ownBlock ≠ some c → w'.heap[c]? = w.heap[c]?) →
      (∀ g cur, v.ownBlock = some g → w.heap[g]? = some (.cells cur e (0, 0)) → ∃ cur', w'.heap[g]? = some (.cells cur' e (0, 0)) ∧ cur'.size = cur.size) → (∃ a k c, v' = .slice a k c) → wpList P ops Q rest (a.put o.dst v') w') : wpList P ops Q (o :: rest) a w := by
  refine wpList_plain hgd fun K hK => ?_
  obtain ⟨v', w', hr, h1, h2, h3, h4, h5, h6, h7, h8, h9⟩ := run_buf (P := P) (w := w) (ty := o.type) ht hu hi hz hsize hby hb y hl hm
  unfold Oper.wp execOp
  simp only [ho, resolve, invoke, builtin, Sem.run_bind, Sem.run_pure, Result.andThen_ok, List.map_toArray, List.map_cons, List.map_nil, hs, hx, hr]
  exact hK _ _ (h v' w' h1 h2 h3 h4 h5 h6 h7 h8 h9)

theorem Buf.tok {e : TypeId} {s : List UInt8} {m : Nat} {v : Value} (h : Buf w G e s m v) (q : Nat) : tk1 (.sl true 1 []) v q = if v.ownBlock = some q then 1 else 0 := by
  rcases h with ⟨rfl, rfl⟩ | ⟨g, cap, cur, rfl, k1, _⟩
  · simp [tk1, Value.ownBlock]
  · simp [tk1, Value.ownBlock, k1]
theorem Buf.own_spec {e : TypeId} {s : List UInt8} {m g : Nat} {v : Value} (h : Buf w G e s m v) (hg : v.ownBlock = some g) : g ≠ m ∧ G g = 0 ∧ ∃ cur, w.heap[g]? = some (.cells cur e (0, 0)) := by
  rcases h with ⟨rfl, rfl⟩ | ⟨g', cap, cur, rfl, k1, k2, k3, k4, _⟩
  · simp [Value.ownBlock] at hg
  · have : g' = g := by simpa [Value.ownBlock] using hg
    subst this
    exact ⟨k2, k3, cur, k4⟩
theorem lv_bld {b m : Nat} {T e : TypeId} {s : List UInt8} {p v : Value} (hm : φ b = some m) (hb : w.heap[m]? = some (.cells #[p, v] T (0, 0))) (q : Nat) : lv w φ q (b, .bld T e s) = (if m = q then 1 else 0) + tk1 (.sl true 1 []) v q := by
  rw [lv_of hm, show mvals w m = [p, v] by unfold mvals; rw [hb]]
  simp only [bcells, sumTk, List.zip_cons_cons, List.zip_nil_right, List.map_cons, List.map_nil, List.sum_cons, List.sum_nil]
  have : tk1 .junk p q = 0 := rfl
  omega
theorem xs_ptr1 {b z : Nat} {us : List Value} (h : All2 (fun x u => R w G φ x u ∧ Tail w G x u) [.ptr b z 0 0] us) : ∃ m, us = [.pointer (some ⟨m, 0, none⟩)] ∧ φ b = some m := by
  cases h with
  | cons h t =>
    cases t
    cases h.1 with | ptr _ _ _ _ _ m hm =>
    exact ⟨m, by simp, hm⟩
theorem xs_ptr2 {b z : Nat} {x : List UInt8} {us : List Value} (h : All2 (fun x u => R w G φ x u ∧ Tail w G x u) [.ptr b z 0 0, .str x] us) : ∃ (m : Nat) (y : ByteArray), us = [.pointer (some ⟨m, 0, none⟩), .string y] ∧ φ b = some m ∧ x = y.data.toList := by
  cases h with
  | cons h t =>
    obtain ⟨m, h1, h2⟩ := xs_ptr1 (w := w) (G := G) (.cons h .nil)
    cases t with
    | cons k t =>
      cases t
      generalize hq : V.str x = q at k
      cases k.1 with
      | str _ y =>
        injection hq with hq
        exact ⟨m, y, by injection h1 with h1; rw [h1], h2, hq⟩
      | _ => cases hq

/-- strings.Builder's WriteString. -/
theorem xs_write {f v0 b z T e : Nat} {s x : List UInt8} (he : entersB P f = true)
    (c : ∀ (m : Nat) (s : List UInt8) (x : ByteArray) (p v : Value) (w : World), w.heap[m]? = some (.cells #[p, v] T (0, 0)) → (p = .pointer none ∨ p = .pointer (some ⟨m, 0, none⟩)) → Buf w (fun _ => 0) e s m v → s.length + x.size ≤ LIM →
      Calls P f #[.pointer (some ⟨m, 0, none⟩), .string x] w fun en w' => en = .returned (.tuple #[.int .i64 x.size, .nilIface]) ∧ BStep T e m w v (s ++ x.data.toList) w')
    (hg : get heap b = some (.bld T e s)) (hl : s.length + x.length ≤ LIM) : XS P f v0 [.ptr b z 0 0, .str x] heap n (fun r h' n' => r = .tup [.int .i64 x.length, .nili] ∧ h' = set heap b (.bld T e (s ++ x)) ∧ n' = n) := by
  refine ⟨he, fun w G φ us h => ?_⟩
  obtain ⟨m, y, rfl, hm, rfl⟩ := xs_ptr2 h.ok
  obtain ⟨m', h1, hG, p, v, hb, hp, hB⟩ := h.reps _ (get_mem hg)
  have h1 : φ b = some m' := h1
  rw [hm] at h1; injection h1 with h1; subst h1
  have hys : y.data.toList.length = y.size := by rw [Array.length_toList]; rfl
  have hmlt : m < w.heap.size := (Array.getElem?_eq_some_iff.1 hb).1
  refine (c m s y p v w hb hp hB.weaken (by rw [← hys]; exact hl)).mono ?_
  rintro en w' ⟨rfl, st⟩
  obtain ⟨v', o1, o2, o3⟩ := st.out
  have hext : Ext w G w' G := by
    refine ⟨fun _ => Nat.le_refl _, fun q k hq => ?_, fun q cc el fr hc => ?_, st.size, st.os, st.tape, st.output⟩
    · have h2 : q ≠ m := fun e => by subst e; omega
      have h3 : v.ownBlock ≠ some q := fun e => by have := (hB.own_spec e).2.1; omega
      rcases Nat.lt_or_ge q w.heap.size with hl | hl
      · exact cell_same (st.far q hl h2 h3) k
      · rw [h.zero q hl] at hq; omega
    · by_cases e1 : q = m
      · subst e1
        rw [hb] at hc; injection hc with hc; injection hc with a1 a2 a3
        subst a1; subst a2; subst a3
        exact ⟨_, _, o1, rfl, .inl rfl⟩
      · by_cases e2 : v.ownBlock = some q
        · obtain ⟨_, _, cur, k⟩ := hB.own_spec e2
          rw [k] at hc; injection hc with hc; injection hc with a1 a2 a3
          subst a1; subst a2; subst a3
          obtain ⟨cur', k1, k2⟩ := st.buf q _ e2 k
          exact ⟨cur', _, k1, k2, .inl rfl⟩
        · exact ⟨cc, fr, by rw [st.far q (Array.getElem?_eq_some_iff.1 hc).1 e1 e2]; exact hc, rfl, .inl rfl⟩
  have hB' : Buf w' G e (s ++ y.data.toList) m v' := by
    rcases o2 with o2 | ⟨g, cap, cur, k0, k1, k2, k3, k4⟩
    · exact .inl o2
    · refine .inr ⟨g, cap, cur, k0, k1, k2, ?_, k4⟩
      rcases o3 g (by rw [k0]; rfl) with k | k
      · exact (hB.own_spec k).2.1
      · exact h.zero g k
  refine ⟨.tup [.int .i64 y.data.toList.length, .nili], _, set heap b (.bld T e (s ++ y.data.toList)), n, G, φ, rfl, ⟨rfl, rfl, rfl⟩, ?_⟩
  refine HRes.upd2 h hg hext (fun q hq h0 => ⟨?_, rfl⟩) (fun q hq => h.zero q (Nat.le_trans st.size hq)) ⟨m, hm, hG, _, v', o1, .inr rfl, hB'⟩ (fun q => ?_) ?_ (fun p hp => ?_) (fun q => rfl)
  · rw [lv_bld hm hb, hB.tok] at h0
    refine st.far q hq (fun e => ?_) (fun e => ?_)
    · rw [if_pos e.symm] at h0; omega
    · rw [if_pos e] at h0; omega
  · rw [lv_bld hm o1, hB'.tok, lv_bld hm hb, hB.tok]
    by_cases hq : w.heap.size ≤ q
    · rw [if_pos hq, if_neg (show ¬ m = q by omega)]
      split <;> omega
    · rw [if_neg hq]
      by_cases e : v'.ownBlock = some q
      · rcases o3 q e with k | k
        · rw [if_pos e, if_pos k]; exact Nat.le_refl _
        · omega
      · rw [if_neg e]; omega
  · refine .tup _ _ _ rfl fun i hi => ?_
    match i, hi with
    | 0, _ => rw [hys]; exact .int _ _ _
    | 1, _ => exact .nili _
  · simp only [leaves, List.zip_cons_cons, V.cells, Value.cells, List.flatMap_cons, List.zip_nil_right, List.flatMap_nil, List.append_nil, List.mem_append, List.mem_singleton, List.cons_append, List.nil_append, List.mem_cons, List.not_mem_nil, or_false] at hp
    rcases hp with rfl | rfl <;> trivial

/-- strings.Builder's String; the builder is not written again behind it. -/
theorem xs_string {f v0 b z T e : Nat} {s : List UInt8} (he : entersB P f = true)
    (c : ∀ (m : Nat) (s : List UInt8) (p v : Value) (w : World), w.heap[m]? = some (.cells #[p, v] T (0, 0)) → Buf w (fun _ => 0) e s m v →
      Calls P f #[.pointer (some ⟨m, 0, none⟩)] w fun en w' => en = .returned (.string ⟨s.toArray⟩) ∧ w'.os = w.os ∧ w'.tape = w.tape ∧ w'.output = w.output ∧ w'.heap.size = w.heap.size ∧ (∀ c, v.ownBlock ≠ some c → w'.heap[c]? = w.heap[c]?) ∧
        ∀ g cur, v.ownBlock = some g → w.heap[g]? = some (.cells cur e (0, 0)) → ∃ fr, w'.heap[g]? = some (.cells cur e fr))
    (hg : get heap b = some (.bld T e s)) : XS P f v0 [.ptr b z 0 0] heap n (fun r h' n' => r = .str s ∧ h' = set heap b (.rows 2 [.agg [.junk, .junk]]) ∧ n' = n) := by
  refine ⟨he, fun w G φ us h => ?_⟩
  obtain ⟨m, rfl, hm⟩ := xs_ptr1 h.ok
  obtain ⟨m', h1, hG, p, v, hb, hp, hB⟩ := h.reps _ (get_mem hg)
  have h1 : φ b = some m' := h1
  rw [hm] at h1; injection h1 with h1; subst h1
  have hmlt : m < w.heap.size := (Array.getElem?_eq_some_iff.1 hb).1
  refine (c m s p v w hb hB.weaken).mono ?_
  rintro en w' ⟨rfl, s1, s2, s3, s4, s5, s6⟩
  have hnm : v.ownBlock ≠ some m := fun e => (hB.own_spec e).1 rfl
  have hbm : w'.heap[m]? = some (.cells #[p, v] T (0, 0)) := by rw [s5 m hnm, hb]
  obtain ⟨G', hG'⟩ : ∃ G' : Nat → Nat, G' = fun q => if v.ownBlock = some q then (match w.heap[q]? with | some (.cells cur _ _) => cur.size + 1 | _ => 0) else G q := ⟨_, rfl⟩
  have hGo : ∀ q, v.ownBlock ≠ some q → G' q = G q := fun q hq => by rw [hG']; simp only; rw [if_neg hq]
  have hGy : ∀ q cur, v.ownBlock = some q → w.heap[q]? = some (.cells cur e (0, 0)) → G' q = cur.size + 1 := fun q cur hq hc => by rw [hG']; simp only; rw [if_pos hq, hc]
  have hext : Ext w G w' G' := by
    refine ⟨fun q => ?_, fun q k hq => ?_, fun q cc el fr hc => ?_, by omega, s1, s2, s3⟩
    · by_cases e1 : v.ownBlock = some q
      · rw [(hB.own_spec e1).2.1]; exact Nat.zero_le _
      · rw [hGo q e1]; exact Nat.le_refl _
    · have h3 : v.ownBlock ≠ some q := fun e => by have := (hB.own_spec e).2.1; omega
      exact cell_same (s5 q h3) k
    · by_cases e2 : v.ownBlock = some q
      · obtain ⟨_, _, cur, k⟩ := hB.own_spec e2
        rw [k] at hc; injection hc with hc; injection hc with a1 a2 a3
        subst a1; subst a2; subst a3
        obtain ⟨fr', k1⟩ := s6 q _ e2 k
        exact ⟨_, fr', k1, rfl, .inr (by rw [hGy q _ e2 k]; omega)⟩
      · exact ⟨cc, fr, by rw [s5 q e2]; exact hc, rfl, .inl rfl⟩
  refine ⟨.str s, _, set heap b (.rows 2 [.agg [.junk, .junk]]), n, G', φ, rfl, ⟨rfl, rfl, rfl⟩, ?_⟩
  have hone : ∀ u ∈ #[p, v], u.oneCell' = true := fun u hu => by
    simp only [List.mem_toArray, List.mem_cons, List.not_mem_nil, or_false] at hu
    rcases hu with rfl | rfl
    · rcases hp with rfl | rfl <;> rfl
    · rcases hB with ⟨rfl, _⟩ | ⟨g, cap, cur, rfl, _⟩ <;> rfl
  have hlv : ∀ q, lv w' φ q (b, boxB [.junk, .junk]) = if m = q then 1 else 0 := fun q => by
    rw [lv_box hm, mvals_cells hbm]
    rfl
  refine HRes.upd2 h hg hext (fun q hq h0 => ?_) (fun q hq => ?_) (boxRep b m [.junk, .junk] #[p, v] T (0, 0) hm (by rw [hGo m hnm, hG]) hbm (fun _ _ h => by omega) (Nat.le_refl _) hone (fun i hi => ?_)) (fun q => ?_) ?_ (Tail_plain rfl _) (fun q => tk_plain rfl _ q)
  · rw [lv_bld hm hb, hB.tok] at h0
    have hq : v.ownBlock ≠ some q := fun e => by rw [if_pos e] at h0; omega
    exact ⟨s5 q hq, hGo q hq⟩
  · rw [hGo q fun e => by
      obtain ⟨_, _, cur, k⟩ := hB.own_spec e
      have := (Array.getElem?_eq_some_iff.1 k).1
      omega]
    exact h.zero q (by omega)
  · match i, hi with
    | 0, _ => exact ⟨.junk _ _, trivial⟩
    | 1, _ => exact ⟨.junk _ _, trivial⟩
  · show lv w' φ q (b, boxB [.junk, .junk]) ≤ _
    rw [hlv, lv_bld hm hb]
    split <;> split <;> omega
  · have := R.str (w := w') (G := G') φ ⟨s.toArray⟩
    simpa using this
end
end Go.Proofs.Ytnodepfoahmcmaa.E

/- The engine, part AN: slices.Clone of an empty row: what a contract must say. Conditions: none. -/
namespace Go.Proofs.Ytnodepfoahmcmaa.E
open Go.RowKit
set_option linter.unusedVariables false
set_option linter.unusedSimpArgs false

section
variable {P : Program}
/-- append, where nothing is appended to nothing: at the operation. -/
theorem wpList_app0 {w : World} {ops : Array Oper} {rest : List Oper} {o : Oper} {a : Act} {Q : Exit → Act → World → Prop} (hgd : o.guard = none) (sl x : Operand) (t t2 : TypeId) (ho : o.op = .call { callee := .builtin .append, args := #[sl, x], argTypes := #[t, t2] })
    {e e' : TypeId} {i : TypeInfo} (ht : P.underlying t = some (.slice e)) (hu : P.underlying t2 = some (.slice e')) (hi : P.info? e = some i) {b : Option Addr} {c0 : Nat} (hs : a.eval sl = .slice b 0 c0) {ad : Option Addr} {c : Nat} (hx : a.eval x = .slice ad 0 c)
    (h : wpList P ops Q rest (a.put o.dst (.slice b 0 c0)) w) : wpList P ops Q (o :: rest) a w := by
  refine wpList_plain hgd fun K hK => ?_
  have hsrc : Src P i.size t2 (.slice ad 0 c) 0 [] w := by
    cases ad with
    | none => exact Src.ofNil w hu c
    | some ad => exact Src.ofSlice w hu ad 0 c [] (by simp) (by simp) (by simp)
  have hr := run_append_nothing (P := P) w t t2 o.type e i ht hi b 0 c0 (Nat.zero_le _) _ hsrc
  unfold Oper.wp execOp
  simp only [ho, resolve, invoke, builtin, Sem.run_bind, Sem.run_pure, Result.andThen_ok, List.map_toArray, List.map_cons, List.map_nil, hs, hx, hr]
  exact hK _ _ h
/-- The library's Clone of an empty row. -/
theorem xs_clone0 {f v : Nat} {heap : Heap} {n sz : Nat} {o : Bool} (he : entersB P f = true) (c1 : ∀ (a : Option Addr) (c : Nat) (w : World), Calls P f #[.slice a 0 c] w fun e w' => ∃ a', e = .returned (.slice a' 0 0) ∧ (w' = w ∨ ∃ o, w' = w.alloc o)) :
    XS P f v [.sl o sz []] heap n (fun r h' n' => r = .sl true sz [] ∧ h' = heap ∧ n' = n) := by
  refine ⟨he, fun w G φ vs hp => ?_⟩
  obtain ⟨u, rfl, hR⟩ : ∃ u, vs = [u] ∧ R w G φ (.sl o sz []) u := by
    cases hp.ok with
    | cons h t => cases t; exact ⟨_, rfl, h.1⟩
  obtain ⟨a, c, rfl⟩ : ∃ a c, u = .slice a 0 c := by
    cases hR with
    | slNil => exact ⟨_, _, rfl⟩
    | sl => exact ⟨_, _, rfl⟩
  refine (c1 a c w).mono ?_
  rintro e w' ⟨a', rfl, hw⟩
  have hT : ∀ w : World, Tail w G (.sl true sz []) (.slice a' 0 0) := fun w p hp => by
    rw [leaves_sl, List.mem_singleton] at hp
    subst hp
    cases a' with
    | none => rfl
    | some ad => exact fun h => absurd h (by simp)
  have hk : ∀ b, tk (.sl true sz []) (.slice a' 0 0) b = 0 := fun b => by
    rw [tk_sl]
    cases a' <;> simp [tk1]
  rcases hw with rfl | ⟨ob, rfl⟩
  · exact ⟨_, _, heap, n, G, φ, rfl, ⟨rfl, rfl, rfl⟩, HRes.same hp (.slNil _ _ _ _ _) (hT _) hk⟩
  · have hext := ext_alloc (w := w) hp.zero ob
    have hlt : ∀ p ∈ heap, ∀ c, lv w φ c p ≠ 0 → c < w.heap.size := fun p hp' c hc => by
      rcases Nat.lt_or_ge c w.heap.size with hl | hl
      · exact hl
      · have h1 := vtk_big hp hl
        have h2 : lv w φ c (p.1, p.2) ≤ (heap.map (lv w φ c)).sum := le_sum (f := lv w φ c) hp'
        unfold cntH at h1
        have : lv w φ c (p.1, p.2) ≠ 0 := hc
        omega
    have hlvs : ∀ p ∈ heap, ∀ q, lv (w.alloc ob) φ q p = lv w φ q p := fun p hp' q => by
      obtain ⟨k, hk, hl, _⟩ := (hp.reps p hp').lt
      exact lv_congr hk hk (heap_alloc_old w ob hl) q
    have hcnt : ∀ q, cntH (w.alloc ob) φ heap q = cntH w φ heap q := fun q => by
      unfold cntH
      rw [sum_congr fun p hp' => hlvs p hp' q]
    have hsz : (w.alloc ob).heap.size = w.heap.size + 1 := Array.size_push ..
    refine ⟨_, _, heap, n, G, φ, rfl, ⟨rfl, rfl, rfl⟩, ⟨.slNil _ _ _ _ _, hT _, fun p hp' => (hp.reps p hp').mono hext (fun _ _ h => h) fun c hc => ⟨heap_alloc_old w ob (hlt p hp' c hc), rfl⟩, hp.sorted, fun b => ?_, hp.ctr, Nat.le_refl _, fun b hb => hp.zero b (by omega), hext, fun _ _ h => h, fun b hb h0 => ⟨heap_alloc_old w ob hb, rfl, ?_⟩⟩⟩
    · rw [hk, hcnt]; have := hp.cnt b; omega
    · rw [hk, hcnt]; omega
end
end Go.Proofs.Ytnodepfoahmcmaa.E
