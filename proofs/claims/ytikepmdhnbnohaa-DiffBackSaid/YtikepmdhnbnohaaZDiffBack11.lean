-- put together by bundle.py, a program of this session, out of the texts named below
import Derived.Test.YtikepmdhnbnohaaZDiffBack0
import Derived.Test.YtikepmdhnbnohaaZDiffBack2
import Derived.Test.YtikepmdhnbnohaaZDiffBack3
import Derived.Test.YtikepmdhnbnohaaZDiffBack4
import Derived.Test.YtikepmdhnbnohaaZDiffBack5
import Derived.Test.YtikepmdhnbnohaaZDiffBack6
import Derived.Test.YtikepmdhnbnohaaZDiffBack7
import Derived.Test.YtikepmdhnbnohaaZDiffBack8
import Derived.Test.YtikepmdhnbnohaaZDiffBack9
import Derived.Test.YtikepmdhnbnohaaZDiffBack10
import Derived.ChangeArms
import Derived.SizedLaws
import Derived.DataReads
import Derived.WideShapes
import Derived.Deep.Slices
import Derived.KernelRfl
-- text YtikepmdhnbnohaaOpens
section
/- Arguments of a law opened to the printed kinds: what the form's reading says of a value of a type, told as the kind that the printed contracts use. One lemma a kind (whole numbers, bools, strings, slices, structs), for whatever nesting. Conditions: none. -/
namespace Go.Proofs.Ytikepmdhnbnohaa.Op
open Go.RowKit Go.Proofs.YtikepmdhnbnohaaW.PrintWords

/-- A value of type t reads as a datum of kind kd that is good. -/
structure Opens {α : Type} (P : Program) (t : TypeId) (kd : Kd α) (G : α → Prop) : Prop where
  size : P.cellsOf t = kd.sz
  out : ∀ {H : Type} {enc : TypeId × Value → H} {w : World} {held : Bool} {fuel : Nat} {cs : List Value} {x : DataW H × List MemPlace}, DataW.trod enc P w 0 (fun _ => true) held fuel t cs = some x →
    (∀ n ∈ x.1.weights P t, n ≤ reachBytes) → ∃ a : α, kd.K w a cs ∧ G a

theorem opens_int {P : Program} {t : TypeId} {k : IntKind} (ht : P.underlying t = some (.int k)) (hs : P.cellsOf t = 1) : Opens P t (Kd.int k) (fun x => (Lit.int k x).wf = true) where
  size := hs
  out := by
    intro H enc w held fuel cs x h _
    obtain ⟨n, rfl, _, hw⟩ := DataW.trod_int ht h
    exact ⟨n, rfl, hw⟩
theorem opens_string {P : Program} {t : TypeId} (ht : P.underlying t = some .string) (hs : P.cellsOf t = 1) : Opens P t Kd.string (fun s => s.size ≤ 140737488351232) where
  size := hs
  out := by
    intro H enc w held fuel cs x h hw
    obtain ⟨s, rfl, rfl, _⟩ := DataW.trod_string ht h
    refine ⟨s, rfl, ?_⟩
    have z := hw s.data.toList.length (by simp [DataW.weights])
    simpa [reachBytes] using z

theorem weights_all {H : Type} {P : Program} {e : TypeId} : ∀ {l : List (DataW H)} {d : DataW H}, d ∈ l → ∀ n ∈ d.weights P e, n ∈ DataW.weightsAll P e l
  | [], _, h, _, _ => by cases h
  | x :: l, d, h, n, hn => by
    simp only [DataW.weightsAll, List.mem_append]
    rcases List.mem_cons.1 h with rfl | h
    · exact .inl hn
    · exact .inr (weights_all h n hn)

theorem opens_slice {α : Type} {P : Program} {t e : TypeId} {kd : Kd α} {G : α → Prop} (B : Nat) (ht : P.underlying t = some (.slice e)) (hs : P.cellsOf t = 1) (hB : P.bytesOf e = B) (ho : Opens P e kd G) :
    Opens P t (Kd.slice e kd) (fun l => l.length * B ≤ 140737488351232 ∧ ∀ x ∈ l, G x) where
  size := hs
  out := by
    intro H enc w held fuel cs x h hw
    rcases DataW.trod_slice ht h with ⟨rfl, rfl⟩ | ⟨a, len, cap, elems, rest, n, rfl, rfl, rfl, _, hl, hm, hlen, hel, _, _⟩
    · exact ⟨[], ⟨none, 0, rfl, Nat.le_refl _, rfl, Nat.zero_le _, fun h => absurd h (by simp)⟩, by simp, by simp⟩
    · have each : ∀ i, i < len → ∃ (z : α) (c : List Value), c.length = kd.sz ∧ kd.K w z c ∧ G z ∧ ∀ j u, c[j]? = some u → w.cell? (a.add (i * kd.sz + j)) = some u := by
        intro i hi
        have h1 := hel i hi
        have hil : i < elems.length := by omega
        rw [List.getElem?_eq_getElem hil, Option.bind_eq_some_iff] at h1
        obtain ⟨c, hc, hy⟩ := h1
        obtain ⟨z, hz, hg⟩ := ho.out hy (fun n hn => hw n (by
          simp only [DataW.weights, ht, List.mem_cons, List.mem_append]
          exact .inr (.inl (weights_all (List.mem_map.2 ⟨_, List.getElem_mem hil, rfl⟩) n hn))))
        obtain ⟨_, hcl, hcell⟩ := World.cells?_some hc
        rw [ho.size] at hcl hcell
        refine ⟨z, c, hcl, hz, hg, fun j u hu => ?_⟩
        have hj : j < c.length := (List.getElem?_eq_some_iff.1 hu).1
        have := hcell j (by omega)
        rw [← hu, ← this, Go.Deep.add_add]
      have pick : ∀ m, m ≤ len → ∃ zs : List α, zs.length = m ∧ (∀ x ∈ zs, G x) ∧ ∀ i p, zs[i]? = some p → ∃ c, c.length = kd.sz ∧ kd.K w p c ∧ ∀ j u, c[j]? = some u → w.cell? (a.add (i * kd.sz + j)) = some u := by
        intro m
        induction m with
        | zero => exact fun _ => ⟨[], rfl, by simp, by simp⟩
        | succ m ih =>
          intro hm'
          obtain ⟨zs, h1, h2, h3⟩ := ih (by omega)
          obtain ⟨z, c, hcl, hz, hg, hcell⟩ := each m (by omega)
          refine ⟨zs ++ [z], by simp [h1], fun x hx => ?_, fun i p hp => ?_⟩
          · rcases List.mem_append.1 hx with hx | hx
            · exact h2 x hx
            · rw [List.mem_singleton.1 hx]
              exact hg
          · rcases Nat.lt_or_ge i zs.length with hi | hi
            · rw [List.getElem?_append_left hi] at hp
              exact h3 i p hp
            · have hi' : i = zs.length := by
                have := (List.getElem?_eq_some_iff.1 hp).1
                simp at this
                omega
              subst hi'
              have hp' : z = p := by simpa using hp
              subst hp'
              rw [h1]
              exact ⟨c, hcl, hz, hcell⟩
      obtain ⟨zs, hzl, hG, hat⟩ := pick len (Nat.le_refl _)
      have hwt := hw ((elems.length + rest.length) * P.bytesOf e) (by simp [DataW.weights, ht])
      refine ⟨zs, ⟨some a, cap, by rw [hzl], by omega, ?_⟩, ?_, hG⟩
      · exact ⟨rfl, by rw [hzl]; exact Nat.le_trans hl (by simpa [maxLen] using hm), fun _ => ⟨a, rfl, hat⟩⟩
      · rw [hB] at hwt
        rw [hzl, ← hlen]
        exact Nat.le_trans (Nat.mul_le_mul_right _ (Nat.le_add_right _ _)) (by simpa [reachBytes] using hwt)

/-- A struct's fields from place o on. -/
structure OpensF {α : Type} (P : Program) (fs : List Field) (o : Nat) (kd : Kd α) (G : α → Prop) : Prop where
  out : ∀ {H : Type} {enc : TypeId × Value → H} {w : World} {held : Bool} {n : Nat} {cs : List Value} {xs : List (DataW H × List MemPlace)}, cs.length = o + kd.sz → xs.length = fs.length →
    (∀ (i : Nat) (f : Field), fs[i]? = some f → DataW.trod enc P w 0 (fun _ => true) held n f.type ((cs.drop f.offset).take (P.cellsOf f.type)) = xs[i]?) →
    (∀ n ∈ DataW.weightsEach P (fs.map (·.type)) (xs.map (·.1)), n ≤ reachBytes) → ∃ a : α, kd.K w a (cs.drop o) ∧ G a
theorem opensF_one {α : Type} {P : Program} {f : Field} {kd : Kd α} {G : α → Prop} {o : Nat} (hoff : f.offset = o) (ho : Opens P f.type kd G) : OpensF P [f] o kd G where
  out := by
    subst hoff
    intro H enc w held n cs xs hl hx hf hw
    match xs, hx with
    | [x], _ =>
      have h1 := hf 0 f rfl
      simp only [List.getElem?_cons_zero] at h1
      obtain ⟨a, hk, hg⟩ := ho.out h1 (fun n hn => hw n (by simp only [List.map_cons, DataW.weightsEach, List.mem_append]; exact .inl hn))
      rw [ho.size, List.take_of_length_le (by rw [List.length_drop]; omega)] at hk
      exact ⟨a, hk, hg⟩
theorem opensF_cons {α β : Type} {P : Program} {f : Field} {fs : List Field} {kd : Kd α} {kr : Kd β} {G : α → Prop} {Gr : β → Prop} {o : Nat} (hoff : f.offset = o) (ho : Opens P f.type kd G) (hr : OpensF P fs (o + kd.sz) kr Gr) :
    OpensF P (f :: fs) o (Kd.pair kd kr) (fun x => G x.1 ∧ Gr x.2) where
  out := by
    subst hoff
    intro H enc w held n cs xs hl hx hf hw
    match xs, hx with
    | x :: xs, hx =>
      have h1 := hf 0 f rfl
      simp only [List.getElem?_cons_zero] at h1
      obtain ⟨a, hk, hg⟩ := ho.out h1 (fun n hn => hw n (by simp only [List.map_cons, DataW.weightsEach, List.mem_append]; exact .inl hn))
      have hl' : cs.length = f.offset + (kd.sz + kr.sz) := hl
      obtain ⟨b, hkb, hgb⟩ := hr.out (cs := cs) (xs := xs) (by omega) (by simpa using hx) (fun i g hi => by simpa using hf (i + 1) g (by simpa using hi)) (fun n hn => hw n (by simp only [List.map_cons, DataW.weightsEach, List.mem_append]; exact .inr hn))
      refine ⟨(a, b), ⟨_, _, ?_, hk, hkb⟩, hg, hgb⟩
      rw [ho.size, ← List.drop_drop, List.take_append_drop]
theorem opens_struct {α β : Type} {P : Program} {t : TypeId} {fs : Array Field} {kd : Kd α} {G : α → Prop} (f : β → α) (hsur : ∀ a, ∃ b, f b = a) (ht : P.underlying t = some (.struct fs)) (hs : P.cellsOf t = kd.sz) (ho : OpensF P fs.toList 0 kd G) :
    Opens P t (Kd.iso kd f) (fun x => G (f x)) where
  size := hs
  out := by
    intro H enc w held fuel cs x h hw
    obtain ⟨xs, n, rfl, rfl, hl, hx, hf⟩ := DataW.trod_struct ht h
    obtain ⟨a, hk, hg⟩ := ho.out (by rw [hl, hs]; omega) (by simpa using hx) (fun i f hi => hf i f (by simpa using hi)) (fun n hn => hw n (by simp only [DataW.weights, ht]; exact hn))
    obtain ⟨b, rfl⟩ := hsur a
    rw [List.drop_zero] at hk
    exact ⟨b, hk, hg⟩
theorem Opens.weaken {α : Type} {P : Program} {t : TypeId} {kd : Kd α} {G G' : α → Prop} (h : Opens P t kd G) (hg : ∀ x, G x → G' x) : Opens P t kd G' where
  size := h.size
  out := fun h1 h2 => by
    obtain ⟨a, hk, hG⟩ := h.out h1 h2
    exact ⟨a, hk, hg a hG⟩
/-- A slice argument. -/
theorem slice_arg {α : Type} {e : TypeId} {kd : Kd α} {w : World} {a : Option Addr} {len cap : Nat} {xs : List α} (h : (Kd.slice e kd).K w xs (Value.slice a len cap).cells.toList) : len = xs.length ∧ xs.length ≤ cap ∧ kd.C w a xs.length xs := by
  obtain ⟨A, c, h1, h2, h3⟩ := h
  have h0 : [Value.slice a len cap] = [.slice A xs.length c] := h1
  injection h0 with h0
  injection h0 with ha hb hc
  subst ha hb hc
  exact ⟨rfl, h2, h3⟩
end Go.Proofs.Ytikepmdhnbnohaa.Op
end
-- text YtikepmdhnbnohaaPOp
section
-- written by mp.py, a program of this session, over the kit's printer
namespace Go.Proofs.Ytikepmdhnbnohaa.P
open Go.RowKit Go.Proofs.Ytikepmdhnbnohaa.Op Go.Proofs.YtikepmdhnbnohaaW.PrintWords
set_option linter.unusedVariables false
def Good44 (x : S44) : Prop := (Lit.int .i64 x.f0).wf = true ∧ (Lit.int .i64 x.f1).wf = true ∧ (Lit.int .i64 x.f2).wf = true ∧ (Lit.int .i64 x.f3).wf = true
theorem op44 : Opens Try.prog 44 k44 Good44 := (opens_struct (fun x : S44 => (x.f0, x.f1, x.f2, x.f3)) (by rintro ⟨a0, a1, a2, a3⟩; exact ⟨⟨a0, a1, a2, a3⟩, rfl⟩) Try.underlying44 (by kernel_rfl) (opensF_cons rfl (opens_int Try.underlying3 (by kernel_rfl) : Opens Try.prog 3 (Kd.int .i64) _) (opensF_cons rfl (opens_int Try.underlying3 (by kernel_rfl) : Opens Try.prog 3 (Kd.int .i64) _) (opensF_cons rfl (opens_int Try.underlying3 (by kernel_rfl) : Opens Try.prog 3 (Kd.int .i64) _) (opensF_one rfl (opens_int Try.underlying3 (by kernel_rfl) : Opens Try.prog 3 (Kd.int .i64) _)))))).weaken (fun x hx => hx)
end Go.Proofs.Ytikepmdhnbnohaa.P
end
-- text YtikepmdhnbnohaaSDiffBack
section
-- written by mp.py, a program of this session, over the kit's printer
namespace Go.Proofs.Ytikepmdhnbnohaa.P
open Go.RowKit Go.Proofs.YtikepmdhnbnohaaW.PrintWords
/-- The one plain statement of the law DiffBack. -/
def graftagelaw08_DiffBack.Pure : Prop := ∀ (l0 : List ByteArray) (l1 : List ByteArray) (l2 : List (S44)), (l0.length * 16 ≤ 140737488351232 ∧ ∀ x_ ∈ l0, x_.size ≤ 140737488351232) → (l1.length * 16 ≤ 140737488351232 ∧ ∀ x_ ∈ l1, x_.size ≤ 140737488351232) → (l2.length * 32 ≤ 140737488351232 ∧ ∀ x_ ∈ l2, Good44 x_) → ∃ k, graftagelaw08_DiffBack.f k l0 l1 l2 = some true
end Go.Proofs.Ytikepmdhnbnohaa.P
end
-- text YtikepmdhnbnohaaPx10
section
-- written by mp.py, a program of this session, over the kit's printer
namespace Go.Proofs.Ytikepmdhnbnohaa.P
open Go.RowKit Go.Proofs.YtikepmdhnbnohaaW.PrintWords Go.Proofs.YtikepmdhnbnohaaW.PrintLast Go.Proofs.YtikepmdhnbnohaaW.PrintMore
attribute [local go_sem] max2_int min2_int max_two min_two max_three min_three max_four min_four   -- for this text's walks alone
set_option linter.unusedVariables false
set_option linter.unusedSimpArgs false

/-! ### diff_Unchanged: function 14 -/
def diff_Unchanged.l0 : Nat → Int → List (S32) → Int → Int → List (S44) → Int → Int → Option ((List (S32)))
  | 0, _, _, _, _, _, _, _ => none
  | k + 1, x1, x5, x6, x7, x10, x11, x12 => if x12 < x11 then (if 0 ≤ x12 then (if x12 < (x10.length : Int) then (if ((rd_T44 x10 x12).f0) > x6 then (if x5.length < 5864062014805 then (diff_Unchanged.l0 k x1 (x5 ++ [(⟨x6, x7, wrap64 (((rd_T44 x10 x12).f0) - x6)⟩ : S32)]) (wrap64 (((rd_T44 x10 x12).f0) + ((rd_T44 x10 x12).f1))) (wrap64 (((rd_T44 x10 x12).f2) + ((rd_T44 x10 x12).f3))) x10 x11 (wrap64 (x12 + 1))) else (none)) else (diff_Unchanged.l0 k x1 x5 (wrap64 (((rd_T44 x10 x12).f0) + ((rd_T44 x10 x12).f1))) (wrap64 (((rd_T44 x10 x12).f2) + ((rd_T44 x10 x12).f3))) x10 x11 (wrap64 (x12 + 1)))) else (none)) else (none)) else (if x1 > x6 then (if x5.length < 5864062014805 then (some (x5 ++ [(⟨x6, x7, wrap64 (x1 - x6)⟩ : S32)])) else (none)) else (some x5))
def diff_Unchanged.f (k : Nat) (l0 : List (S44)) (a1 : Int) : Option ((List (S32))) := diff_Unchanged.l0 k a1 ([] : List (S32)) 0 0 l0 (l0.length : Int) 0
/-! ### graftageref08_within: function 34 -/
def graftageref08_within.f (a0_0 : Int) (a0_1 : Int) (a0_2 : Int) (a0_3 : Int) (a1_0 : Int) (a1_1 : Int) (a1_2 : Int) (a1_3 : Int) (a2 : Int) (a3 : Int) : Option (Bool) := if a0_0 < a1_0 then (some false) else (if a0_2 < a1_2 then (some false) else (if a0_1 < 0 then (some false) else (if a0_3 < 0 then (some false) else (if a0_0 > a2 then (some false) else (if a0_2 > a3 then (some false) else (if a0_1 ≤ (wrap64 (a2 - a0_0)) then (some (decide (a0_3 ≤ (wrap64 (a3 - a0_2))))) else (some false)))))))
end Go.Proofs.Ytikepmdhnbnohaa.P
end
-- text YtikepmdhnbnohaaPx11
section
-- written by mp.py, a program of this session, over the kit's printer
namespace Go.Proofs.Ytikepmdhnbnohaa.P
open Go.RowKit Go.Proofs.YtikepmdhnbnohaaW.PrintWords Go.Proofs.YtikepmdhnbnohaaW.PrintLast Go.Proofs.YtikepmdhnbnohaaW.PrintMore
attribute [local go_sem] max2_int min2_int max_two min_two max_three min_three max_four min_four   -- for this text's walks alone
set_option linter.unusedVariables false
set_option linter.unusedSimpArgs false

/-! ### graftageref08_Right: function 15 -/
end Go.Proofs.Ytikepmdhnbnohaa.P
end
-- text YtikepmdhnbnohaaPx15
section
-- written by mp.py, a program of this session, over the kit's printer
namespace Go.Proofs.Ytikepmdhnbnohaa.P
open Go.RowKit Go.Proofs.YtikepmdhnbnohaaW.PrintWords Go.Proofs.YtikepmdhnbnohaaW.PrintLast Go.Proofs.YtikepmdhnbnohaaW.PrintMore
attribute [local go_sem] max2_int min2_int max_two min_two max_three min_three max_four min_four   -- for this text's walks alone
set_option linter.unusedVariables false
set_option linter.unusedSimpArgs false

/-! ### graftageref08_Apply: function 18 -/
def graftageref08_Apply.l0 : Nat → List ByteArray → List (S44) → List ByteArray → List ByteArray → Int → Int → Int → Int → Int → Int → Option (List ByteArray × Int)
  | 0, _, _, _, _, _, _, _, _, _, _ => none
  | k + 1, x0, x1, x2, x9, x14, x15, x262000, x262001, x262002, x262003 => if x15 < x14 then (if 0 ≤ x15 then (if x15 < (x1.length : Int) then ((graftageref08_within.f ((rd_T44 x1 x15).f0) ((rd_T44 x1 x15).f1) ((rd_T44 x1 x15).f2) ((rd_T44 x1 x15).f3) x262000 x262001 x262002 x262003 (x0.length : Int) (x2.length : Int)).bind fun t264 => (if t264 = true then (if 0 ≤ x262000 then (if x262000 ≤ ((rd_T44 x1 x15).f0) then (if ((rd_T44 x1 x15).f0) ≤ (x0.length : Int) then (if x9.length + ((x0.take (((rd_T44 x1 x15).f0) : Int).toNat).drop (x262000 : Int).toNat).length < 8796093022208 then ((some (x9 ++ ((x0.take (((rd_T44 x1 x15).f0) : Int).toNat).drop (x262000 : Int).toNat) : List ByteArray)).bind fun y266 => (if 0 ≤ ((rd_T44 x1 x15).f2) then (if ((rd_T44 x1 x15).f2) ≤ (wrap64 (((rd_T44 x1 x15).f2) + ((rd_T44 x1 x15).f3))) then (if (wrap64 (((rd_T44 x1 x15).f2) + ((rd_T44 x1 x15).f3))) ≤ (x2.length : Int) then (if y266.length + ((x2.take ((wrap64 (((rd_T44 x1 x15).f2) + ((rd_T44 x1 x15).f3))) : Int).toNat).drop (((rd_T44 x1 x15).f2) : Int).toNat).length < 8796093022208 then (graftageref08_Apply.l0 k x0 x1 x2 (y266 ++ ((x2.take ((wrap64 (((rd_T44 x1 x15).f2) + ((rd_T44 x1 x15).f3))) : Int).toNat).drop (((rd_T44 x1 x15).f2) : Int).toNat)) x14 (wrap64 (x15 + 1)) (wrap64 (((rd_T44 x1 x15).f0) + ((rd_T44 x1 x15).f1))) 0 (wrap64 (((rd_T44 x1 x15).f2) + ((rd_T44 x1 x15).f3))) 0) else (none)) else (none)) else (none)) else (none))) else (none)) else (none)) else (none)) else (none)) else (some (([] : List ByteArray), 80)))) else (none)) else (none)) else (if 0 ≤ x262000 then (if x262000 ≤ (x0.length : Int) then (if x9.length + (x0.drop (x262000 : Int).toNat).length < 8796093022208 then (some ((x9 ++ (x0.drop (x262000 : Int).toNat)), 0)) else (none)) else (none)) else (none))
def graftageref08_Apply.f (k : Nat) (l0 : List ByteArray) (l1 : List (S44)) (l2 : List ByteArray) : Option (List ByteArray × Int) := graftageref08_Apply.l0 k l0 l1 l2 ([] : List ByteArray) (l1.length : Int) 0 0 0 0 0
end Go.Proofs.Ytikepmdhnbnohaa.P
end
-- text YtikepmdhnbnohaaPx24
section
-- written by mp.py, a program of this session, over the kit's printer
namespace Go.Proofs.Ytikepmdhnbnohaa.P
open Go.RowKit Go.Proofs.YtikepmdhnbnohaaW.PrintWords Go.Proofs.YtikepmdhnbnohaaW.PrintLast Go.Proofs.YtikepmdhnbnohaaW.PrintMore
attribute [local go_sem] max2_int min2_int max_two min_two max_three min_three max_four min_four   -- for this text's walks alone
set_option linter.unusedVariables false
set_option linter.unusedSimpArgs false

/-! ### diff_FromRuns: function 26 -/
end Go.Proofs.Ytikepmdhnbnohaa.P
end
-- text YtikepmdhnbnohaaPx17
section
-- written by mp.py, a program of this session, over the kit's printer
namespace Go.Proofs.Ytikepmdhnbnohaa.P
open Go.RowKit Go.Proofs.YtikepmdhnbnohaaW.PrintWords Go.Proofs.YtikepmdhnbnohaaW.PrintLast Go.Proofs.YtikepmdhnbnohaaW.PrintMore
attribute [local go_sem] max2_int min2_int max_two min_two max_three min_three max_four min_four   -- for this text's walks alone
set_option linter.unusedVariables false
set_option linter.unusedSimpArgs false

/-! ### graftageref08_Cost: function 20 -/
end Go.Proofs.Ytikepmdhnbnohaa.P
end
-- text YtikepmdhnbnohaaPlBase
section
/- Plain facts on numbers and lists that the plain proofs of this seat share. Conditions: none. -/
namespace Go.Proofs.Ytikepmdhnbnohaa.Pl
open Go.RowKit Go.Proofs.YtikepmdhnbnohaaW.PrintWords
theorem w64 {n : Int} (h1 : -9223372036854775808 ≤ n) (h2 : n ≤ 9223372036854775807) : wrap64 n = n := by unfold wrap64; omega
theorem wfI {x : Int} (h : (Lit.int .i64 x).wf = true) : -9223372036854775808 ≤ x ∧ x ≤ 9223372036854775807 := by
  simp only [Lit.wf, Bool.and_eq_true, decide_eq_true_eq] at h
  have e1 : IntKind.i64.min = -9223372036854775808 := by decide
  have e2 : IntKind.i64.max = 9223372036854775807 := by decide
  rw [e1, e2] at h
  exact h
theorem tl_inj {a b : ByteArray} : a.toList = b.toList ↔ a = b := by
  constructor
  · intro h
    rw [ByteArray.toList_eq, ByteArray.toList_eq] at h
    cases a
    cases b
    simp only at h
    rw [Array.toList_inj.1 h]
  · intro h
    rw [h]
theorem snoc_app {α : Type} (d r : List α) (e : α) : d ++ e :: r = (d ++ [e]) ++ r := by simp
theorem Ev.some_ {α : Type} {r : α} {g : Nat → Option α} (h : ∀ k, g k = some r) : Ev g r := ⟨0, fun k _ => h k⟩
/-- A loop's end: one round answers. -/
theorem Ev.end_ {α : Type} {g : Nat → Option α} {r : α} (h : ∀ k, g (k + 1) = some r) : Ev g r := Ev.step h (Ev.now r)
end Go.Proofs.Ytikepmdhnbnohaa.Pl
end
-- text YtikepmdhnbnohaaPlLcs
section
/- The greatest number of lines that stay (lcs), alignments of two lists, the greedy one, and that it is best. No program in sight. Conditions: none. -/
namespace Go.Proofs.Ytikepmdhnbnohaa.Pl
open Go.RowKit Go.Proofs.YtikepmdhnbnohaaW.PrintWords
variable {α : Type} [DecidableEq α]
def lcs : List α → List α → Nat
  | [], _ => 0
  | _ :: _, [] => 0
  | x :: a, y :: b => if x = y then lcs a b + 1 else max (lcs a (y :: b)) (lcs (x :: a) b)
termination_by a b => a.length + b.length
theorem lcs_nil (b : List α) : lcs [] b = 0 := by unfold lcs; rfl
theorem lcs_nil2 (a : List α) : lcs a [] = 0 := by cases a <;> (unfold lcs; rfl)
theorem lcs_same (x : α) (a b : List α) : lcs (x :: a) (x :: b) = lcs a b + 1 := by rw [lcs, if_pos rfl]
theorem lcs_ne {x y : α} (h : x ≠ y) (a b : List α) : lcs (x :: a) (y :: b) = max (lcs a (y :: b)) (lcs (x :: a) b) := by rw [lcs, if_neg h]
theorem lcs_le_both : ∀ n (a b : List α), a.length + b.length ≤ n → (∀ x, lcs a b ≤ lcs (x :: a) b ∧ lcs (x :: a) b ≤ lcs a b + 1) ∧ (∀ y, lcs a b ≤ lcs a (y :: b) ∧ lcs a (y :: b) ≤ lcs a b + 1) := by
  intro n
  induction n with
  | zero =>
    intro a b h
    have ha : a = [] := List.eq_nil_of_length_eq_zero (by omega)
    have hb : b = [] := List.eq_nil_of_length_eq_zero (by omega)
    subst ha hb
    exact ⟨fun x => by simp [lcs_nil2], fun y => by simp [lcs_nil]⟩
  | succ n ih =>
    intro a b h
    refine ⟨fun x => ?_, fun y => ?_⟩
    · cases b with
      | nil => simp [lcs_nil2]
      | cons y b =>
        have hb := (ih a b (by simp at h; omega)).2 y
        by_cases e : x = y
        · subst e
          rw [lcs_same]
          omega
        · rw [lcs_ne e]
          have hx := (ih a b (by simp at h; omega)).1 x
          omega
    · cases a with
      | nil => simp [lcs_nil]
      | cons x a =>
        have ha := (ih a b (by simp at h; omega)).1 x
        by_cases e : x = y
        · subst e
          rw [lcs_same]
          omega
        · rw [lcs_ne e]
          have hy := (ih a b (by simp at h; omega)).2 y
          omega
theorem lcs_le_left : ∀ n (a b : List α), a.length + b.length ≤ n → lcs a b ≤ a.length ∧ lcs a b ≤ b.length := by
  intro n
  induction n with
  | zero =>
    intro a b h
    have ha : a = [] := List.eq_nil_of_length_eq_zero (by omega)
    subst ha
    simp [lcs_nil]
  | succ n ih =>
    intro a b h
    cases a with
    | nil => simp [lcs_nil]
    | cons x a =>
      cases b with
      | nil => simp [lcs_nil2]
      | cons y b =>
        simp only [List.length_cons] at h ⊢
        by_cases e : x = y
        · subst e
          rw [lcs_same]
          have := ih a b (by omega)
          omega
        · rw [lcs_ne e]
          have h1 := ih a (y :: b) (by simp; omega)
          have h2 := ih (x :: a) b (by simp; omega)
          simp only [List.length_cons] at h1 h2
          omega
theorem lcs_le (a b : List α) : lcs a b ≤ a.length ∧ lcs a b ≤ b.length := lcs_le_left _ a b (Nat.le_refl _)
/-- What becomes of a line: it stays, goes, or comes. -/
inductive Op where
  | K | D | I
deriving DecidableEq
/-- An alignment of two lists. -/
inductive Al : List α → List α → List Op → Prop where
  | nil : Al [] [] []
  | keep (x : α) {a b : List α} {o : List Op} (h : Al a b o) : Al (x :: a) (x :: b) (Op.K :: o)
  | del (x : α) {a b : List α} {o : List Op} (h : Al a b o) : Al (x :: a) b (Op.D :: o)
  | ins (y : α) {a b : List α} {o : List Op} (h : Al a b o) : Al a (y :: b) (Op.I :: o)
def kept (o : List Op) : Nat := o.countP (· == Op.K)
def paid (o : List Op) : Nat := o.countP (· != Op.K)
theorem kept_K (o : List Op) : kept (Op.K :: o) = kept o + 1 := by simp [kept]
theorem kept_D (o : List Op) : kept (Op.D :: o) = kept o := by simp [kept]
theorem kept_I (o : List Op) : kept (Op.I :: o) = kept o := by simp [kept]
theorem paid_K (o : List Op) : paid (Op.K :: o) = paid o := by simp [paid]
theorem paid_D (o : List Op) : paid (Op.D :: o) = paid o + 1 := by simp [paid]
theorem paid_I (o : List Op) : paid (Op.I :: o) = paid o + 1 := by simp [paid]
omit [DecidableEq α] in
theorem Al.lens {a b : List α} {o : List Op} (h : Al a b o) : paid o + 2 * kept o = a.length + b.length := by
  induction h with
  | nil => simp [paid, kept]
  | keep x h ih => rw [kept_K, paid_K]; simp only [List.length_cons]; omega
  | del x h ih => rw [kept_D, paid_D]; simp only [List.length_cons]; omega
  | ins y h ih => rw [kept_I, paid_I]; simp only [List.length_cons]; omega
/-- The alignment that one rule tells. -/
def greedy : List α → List α → List Op
  | [], [] => []
  | _ :: a, [] => Op.D :: greedy a []
  | [], _ :: b => Op.I :: greedy [] b
  | x :: a, y :: b => if x = y then Op.K :: greedy a b else if lcs (x :: a) b ≤ lcs a (y :: b) then Op.D :: greedy a (y :: b) else Op.I :: greedy (x :: a) b
termination_by a b => a.length + b.length
theorem greedy_al : ∀ n (a b : List α), a.length + b.length ≤ n → Al a b (greedy a b) ∧ kept (greedy a b) = lcs a b := by
  intro n
  induction n with
  | zero =>
    intro a b h
    have ha : a = [] := List.eq_nil_of_length_eq_zero (by omega)
    have hb : b = [] := List.eq_nil_of_length_eq_zero (by omega)
    subst ha hb
    rw [greedy]
    exact ⟨Al.nil, by simp [kept, lcs_nil]⟩
  | succ n ih =>
    intro a b h
    cases a with
    | nil =>
      cases b with
      | nil => rw [greedy]; exact ⟨Al.nil, by simp [kept, lcs_nil]⟩
      | cons y b =>
        have := ih [] b (by simp at h ⊢; omega)
        rw [greedy, kept_I, this.2]
        exact ⟨Al.ins y this.1, by rw [lcs_nil, lcs_nil]⟩
    | cons x a =>
      cases b with
      | nil =>
        have := ih a [] (by simp at h ⊢; omega)
        rw [greedy, kept_D, this.2]
        exact ⟨Al.del x this.1, by rw [lcs_nil2, lcs_nil2]⟩
      | cons y b =>
        simp only [List.length_cons] at h
        rw [greedy]
        by_cases e : x = y
        · subst e
          have := ih a b (by omega)
          rw [if_pos rfl, kept_K, lcs_same, this.2]
          exact ⟨Al.keep x this.1, rfl⟩
        · rw [if_neg e, lcs_ne e]
          by_cases c : lcs (x :: a) b ≤ lcs a (y :: b)
          · have := ih a (y :: b) (by simp; omega)
            rw [if_pos c, kept_D, this.2]
            exact ⟨Al.del x this.1, by omega⟩
          · have := ih (x :: a) b (by simp; omega)
            rw [if_neg c, kept_I, this.2]
            exact ⟨Al.ins y this.1, by omega⟩
theorem greedy_is (a b : List α) : Al a b (greedy a b) := (greedy_al _ a b (Nat.le_refl _)).1
end Go.Proofs.Ytikepmdhnbnohaa.Pl
end
-- text YtikepmdhnbnohaaPlScr
section
/- Edit scripts: what a valid one is, its cost, its inverse, and the script of an alignment. No program in sight. Conditions: none. -/
namespace Go.Proofs.Ytikepmdhnbnohaa.Pl
open Go.RowKit Go.Proofs.YtikepmdhnbnohaaW.PrintWords Go.Proofs.Ytikepmdhnbnohaa.P
set_option linter.unusedSimpArgs false
set_option linter.unusedVariables false
abbrev Ed := S44
/-- A valid script of a list to another one, from two places on; 'f': nothing stands ahead of it. -/
inductive Scr {α : Type} : Bool → Int → Int → List α → List α → List Ed → Prop where
  | nil (f : Bool) (i j : Int) (a : List α) : Scr f i j a a []
  | edit (f : Bool) (i j : Int) (c d e a b : List α) (l : List Ed) (h1 : f = true ∨ c ≠ []) (h2 : d ≠ [] ∨ e ≠ []) (h : Scr false (i + c.length + d.length) (j + c.length + e.length) a b l) :
      Scr f i j (c ++ (d ++ a)) (c ++ (e ++ b)) (⟨i + c.length, d.length, j + c.length, e.length⟩ :: l)
def cost (l : List Ed) : Int := (l.map fun e => e.f1 + e.f3).foldr (· + ·) 0
theorem cost_nil : cost [] = 0 := rfl
theorem cost_cons (e : Ed) (l : List Ed) : cost (e :: l) = e.f1 + e.f3 + cost l := rfl
def inv (l : List Ed) : List Ed := l.map fun e => ⟨e.f2, e.f3, e.f0, e.f1⟩
theorem inv_inv (l : List Ed) : inv (inv l) = l := by
  unfold inv
  rw [List.map_map]
  exact List.map_id'' (fun _ => rfl) l
theorem cost_inv (l : List Ed) : cost (inv l) = cost l := by
  induction l with
  | nil => rfl
  | cons e l ih => rw [show inv (e :: l) = ⟨e.f2, e.f3, e.f0, e.f1⟩ :: inv l from rfl, cost_cons, cost_cons, ih]; dsimp only; omega
theorem Scr.inv {α : Type} {f : Bool} {i j : Int} {a b : List α} {l : List Ed} (h : Scr f i j a b l) : Scr f j i b a (inv l) := by
  induction h with
  | nil f i j a => exact Scr.nil f j i a
  | edit f i j c d e a b l h1 h2 h ih => exact Scr.edit f j i c e d b a (Pl.inv l) h1 (Or.symm h2) ih
/-- The script of an alignment: 'cur' is the edit that is under way. -/
def scr : List Op → Int → Int → Option Ed → List Ed
  | [], _, _, cur => cur.toList
  | Op.K :: o, i, j, cur => cur.toList ++ scr o (i + 1) (j + 1) none
  | Op.D :: o, i, j, none => scr o (i + 1) j (some ⟨i, 1, j, 0⟩)
  | Op.D :: o, i, j, some e => scr o (i + 1) j (some ⟨e.f0, e.f1 + 1, e.f2, e.f3⟩)
  | Op.I :: o, i, j, none => scr o i (j + 1) (some ⟨i, 0, j, 1⟩)
  | Op.I :: o, i, j, some e => scr o i (j + 1) (some ⟨e.f0, e.f1, e.f2, e.f3 + 1⟩)
end Go.Proofs.Ytikepmdhnbnohaa.Pl
end
-- text YtikepmdhnbnohaaPlTable
section
/- The table that diff makes: its entries are the greatest numbers of lines that stay. And what Least's second loop comes to: the edits of the greedy alignment. Conditions: lists of at most 4096 lines. -/
namespace Go.Proofs.Ytikepmdhnbnohaa.Pl
open Go.RowKit Go.Proofs.YtikepmdhnbnohaaW.PrintWords Go.Proofs.Ytikepmdhnbnohaa.P
set_option linter.unusedSimpArgs false
set_option linter.unusedVariables false
/-- Entry (i, j) of a table. -/
def ent (T : List (List Int)) (i j : Nat) : Int := (T.getD i []).getD j 0
def row (T : List (List Int)) (i : Nat) : List Int := T.getD i []
theorem ent_row (T : List (List Int)) (i j : Nat) : ent T i j = (row T i).getD j 0 := rfl
theorem rd_row (T : List (List Int)) (i : Nat) : rd_L2 T (i : Int) = row T i := by unfold rd_L2 row; rw [Int.toNat_natCast]
theorem rd_nat (l : List Int) (j : Nat) : rd l (j : Int) = l.getD j 0 := by unfold rd; rw [Int.toNat_natCast]
theorem row_set (T : List (List Int)) (i r : Nat) (v : List Int) (hi : i < T.length) : row (T.set i v) r = if r = i then v else row T r := by
  unfold row
  simp only [List.getD_eq_getElem?_getD, List.getElem?_set]
  by_cases e : i = r
  · subst e
    simp [hi]
  · rw [if_neg e, if_neg (Ne.symm e)]
theorem getD_set (l : List Int) (j c : Nat) (v : Int) (hj : j < l.length) : (l.set j v).getD c 0 = if c = j then v else l.getD c 0 := by
  simp only [List.getD_eq_getElem?_getD, List.getElem?_set]
  by_cases e : j = c
  · subst e
    simp [hj]
  · rw [if_neg e, if_neg (Ne.symm e)]
/-- Rows of the right lengths. -/
def Sized (T : List (List Int)) (n m : Nat) : Prop := T.length = n + 1 ∧ ∀ r, r ≤ n → (row T r).length = m + 1
/-- Rows above i are right, row i from column j on, all else is 0. -/
def Right (a b : List ByteArray) (T : List (List Int)) (i j : Nat) : Prop :=
  ∀ r c, r ≤ a.length → c ≤ b.length → (i < r ∨ (r = i ∧ j ≤ c) → ent T r c = (lcs (a.drop r) (b.drop c) : Nat)) ∧ (¬ (i < r ∨ (r = i ∧ j ≤ c)) → ent T r c = 0)
def IsTab (a b : List ByteArray) (T : List (List Int)) : Prop := Sized T a.length b.length ∧ ∀ r c, r ≤ a.length → c ≤ b.length → ent T r c = (lcs (a.drop r) (b.drop c) : Nat)
theorem lcs_bound (a b : List ByteArray) (ha : a.length ≤ 4096) (r c : Nat) : ((lcs (a.drop r) (b.drop c) : Nat) : Int) ≤ 4096 := by
  have := (lcs_le (a.drop r) (b.drop c)).1
  rw [List.length_drop] at this
  omega
/-- One entry more. -/
theorem Right.put {a b : List ByteArray} {T : List (List Int)} {i j : Nat} (hS : Sized T a.length b.length) (h : Right a b T i (j + 1)) (hi : i < a.length) (hj : j < b.length) (v : Int) (hv : v = (lcs (a.drop i) (b.drop j) : Nat)) :
    Sized (T.set i ((row T i).set j v)) a.length b.length ∧ Right a b (T.set i ((row T i).set j v)) i j := by
  have hl : i < T.length := by rw [hS.1]; omega
  have hr : (row T i).length = b.length + 1 := hS.2 i (by omega)
  refine ⟨⟨by rw [List.length_set]; exact hS.1, fun r hrn => ?_⟩, fun r c hrn hc => ?_⟩
  · rw [row_set _ _ _ _ hl]
    split
    · rw [List.length_set, hr]
    · exact hS.2 r hrn
  · rw [ent_row, row_set _ _ _ _ hl]
    have hh := h r c hrn hc
    by_cases e : r = i
    · subst e
      rw [if_pos rfl, getD_set _ _ _ _ (by omega)]
      by_cases ec : c = j
      · subst ec
        rw [if_pos rfl]
        exact ⟨fun _ => hv, fun hn => absurd (Or.inr ⟨rfl, Nat.le_refl _⟩) hn⟩
      · rw [if_neg ec, ← ent_row]
        exact ⟨fun hy => hh.1 (by omega), fun hn => hh.2 (by omega)⟩
    · rw [if_neg e, ← ent_row]
      exact ⟨fun hy => hh.1 (by omega), fun hn => hh.2 (by omega)⟩
theorem drop_cons {α : Type} (l : List α) (i : Nat) (h : i < l.length) : l.drop i = l[i] :: l.drop (i + 1) := List.drop_eq_getElem_cons h
theorem rdB_at (l : List ByteArray) (i : Nat) (h : i < l.length) : rdOf ByteArray.empty l (i : Int) = l[i] := by
  unfold rdOf
  rw [Int.toNat_natCast, List.getD_eq_getElem?_getD, List.getElem?_eq_getElem h]
  rfl
theorem l2_ev (a b : List ByteArray) (ha : a.length ≤ 4096) (hb : b.length ≤ 4096) (i : Nat) (hi : i < a.length) (R : List (List Int)) : ∀ (j : Nat) (T : List (List Int)), j ≤ b.length → Sized T a.length b.length → Right a b T i j →
    (∀ T', Sized T' a.length b.length → Right a b T' i 0 → ∃ r, Ev (fun k => diff_table.l1 k a b T' ((i : Int) - 1)) r ∧ IsTab a b r) →
    ∃ r, Ev (fun k => diff_table.l2 k a b T (i : Int) ((j : Int) - 1)) r ∧ IsTab a b r := by
  intro j
  induction j with
  | zero =>
    intro T _ hS hR next
    obtain ⟨r, hr, ht⟩ := next T hS hR
    refine ⟨r, Ev.step (fun k => ?_) hr, ht⟩
    rw [diff_table.l2, if_neg (by omega), w64 (by omega) (by omega)]
  | succ j ih =>
    intro T hj hS hR next
    have hl : T.length = a.length + 1 := hS.1
    have hr0 : (row T i).length = b.length + 1 := hS.2 i (by omega)
    have hr1 : (row T (i + 1)).length = b.length + 1 := hS.2 (i + 1) (by omega)
    have e1 : ((j + 1 : Nat) : Int) - 1 = (j : Int) := by omega
    have ei : (i : Int) + 1 = ((i + 1 : Nat) : Int) := by omega
    have ej : (j : Int) + 1 = ((j + 1 : Nat) : Int) := by omega
    have key : ∀ v, v = ((lcs (a.drop i) (b.drop j) : Nat) : Int) → ∃ r, Ev (fun k => diff_table.l2 k a b (T.set i ((row T i).set j v)) (i : Int) ((j : Int) - 1)) r ∧ IsTab a b r := by
      intro v hv
      obtain ⟨h1, h2⟩ := hR.put hS hi (by omega) v hv
      exact ih _ (by omega) h1 h2 next
    by_cases e : a[i] = b[j]
    · have hv : (lcs (a.drop i) (b.drop j) : Nat) = lcs (a.drop (i + 1)) (b.drop (j + 1)) + 1 := by rw [drop_cons a i hi, drop_cons b j (by omega), e, lcs_same]
      have hbound := lcs_bound a b ha (i + 1) (j + 1)
      obtain ⟨r, hr, ht⟩ := key (IntKind.u16.wrap (rd (rd_L2 T (i + 1)) (j + 1) + 1)) (by
        rw [ei, ej, rd_row, rd_nat, ← ent_row, (hR (i + 1) (j + 1) (by omega) (by omega)).1 (.inl (by omega)), hv]
        push_cast
        simp only [IntKind.wrap, IntKind.signed, IntKind.bits]
        simp
        omega)
      refine ⟨r, Ev.step (fun k => ?_) hr, ht⟩
      rw [diff_table.l2, e1, if_pos (by omega), if_pos (by omega), if_pos (by omega), if_pos (by omega), if_pos (by omega), rdB_at a i hi, rdB_at b j (by omega), if_pos (by rw [e]), w64 (by omega) (by omega), w64 (by omega) (by omega), if_pos (by omega), if_pos (by omega), if_pos (by omega), if_pos (by omega), if_pos (by rw [ei, rd_row, hr1]; omega), if_pos (by rw [rd_row, hr0]; omega), w64 (by omega) (by omega)]
      simp only [Int.toNat_natCast, rd_row]
    · have hv : (lcs (a.drop i) (b.drop j) : Nat) = max (lcs (a.drop (i + 1)) (b.drop j)) (lcs (a.drop i) (b.drop (j + 1))) := by rw [drop_cons a i hi, drop_cons b j (by omega), lcs_ne e]
      obtain ⟨r, hr, ht⟩ := key (mx (rd (rd_L2 T (i + 1)) j) (rd (rd_L2 T i) (j + 1))) (by
        rw [ei, ej, rd_row, rd_row, rd_nat, rd_nat, ← ent_row, ← ent_row, (hR (i + 1) j (by omega) (by omega)).1 (.inl (by omega)), (hR i (j + 1) (by omega) (by omega)).1 (.inr ⟨rfl, Nat.le_refl _⟩), hv]
        unfold mx
        omega)
      refine ⟨r, Ev.step (fun k => ?_) hr, ht⟩
      rw [diff_table.l2, e1, if_pos (by omega), if_pos (by omega), if_pos (by omega), if_pos (by omega), if_pos (by omega), rdB_at a i hi, rdB_at b j (by omega), if_neg (by rw [tl_inj]; exact e), w64 (by omega) (by omega), w64 (by omega) (by omega), if_pos (by omega), if_pos (by omega), if_pos (by omega), if_pos (by rw [ei, rd_row, hr1]; omega), if_pos (by omega), if_pos (by rw [rd_row, hr0]; omega), if_pos (by rw [rd_row, hr0]; omega), w64 (by omega) (by omega)]
      simp only [Int.toNat_natCast, rd_row]
theorem l1_ev (a b : List ByteArray) (ha : a.length ≤ 4096) (hb : b.length ≤ 4096) : ∀ (i : Nat) (T : List (List Int)), i ≤ a.length → Sized T a.length b.length → Right a b T i 0 → ∃ r, Ev (fun k => diff_table.l1 k a b T ((i : Int) - 1)) r ∧ IsTab a b r := by
  intro i
  induction i with
  | zero =>
    intro T _ hS hR
    refine ⟨T, Ev.end_ fun k => ?_, hS, fun r c hr hc => (hR r c hr hc).1 (by omega)⟩
    rw [diff_table.l1, if_neg (by omega)]
  | succ i ih =>
    intro T hi hS hR
    have e1 : ((i + 1 : Nat) : Int) - 1 = (i : Int) := by omega
    have hR' : Right a b T i (b.length + 1) := fun r c hr hc => ⟨fun hy => (hR r c hr hc).1 (by omega), fun hn => (hR r c hr hc).2 (by omega)⟩
    -- the last column is 0, and right
    have hR2 : Right a b T i b.length := fun r c hr hc => by
      refine ⟨fun hy => ?_, fun hn => (hR' r c hr hc).2 (by omega)⟩
      by_cases e : i < r
      · exact (hR' r c hr hc).1 (.inl e)
      · have er : r = i := by omega
        have ec : c = b.length := by omega
        subst er ec
        rw [(hR' r b.length hr hc).2 (by omega), List.drop_length, lcs_nil2]
        rfl
    obtain ⟨r, hr, ht⟩ := l2_ev a b ha hb i (by omega) T b.length T (Nat.le_refl _) hS hR2 (fun T' hS' hR'' => ih T' (by omega) hS' hR'')
    refine ⟨r, Ev.step (fun k => ?_) hr, ht⟩
    rw [diff_table.l1, e1, if_pos (by omega), w64 (by omega) (by omega)]
theorem l0_ev (a b : List ByteArray) (ha : a.length ≤ 4096) (hb : b.length ≤ 4096) : ∀ (d i : Nat) (T : List (List Int)), i + d = a.length + 1 → T.length = a.length + 1 → (∀ r, r < i → row T r = List.replicate (b.length + 1) 0) →
    ∃ r, Ev (fun k => diff_table.l0 k a b T ((a.length : Int) + 1) (i : Int)) r ∧ IsTab a b r := by
  intro d
  induction d with
  | zero =>
    intro i T hi hT hz
    have hS : Sized T a.length b.length := ⟨hT, fun r hr => by rw [hz r (by omega)]; simp⟩
    have h0 : ∀ r c, r ≤ a.length → ent T r c = 0 := fun r c hr => by
      rw [ent_row, hz r (by omega), List.getD_eq_getElem?_getD, List.getElem?_replicate]
      split <;> rfl
    have hR : Right a b T a.length 0 := fun r c hr hc => by
      refine ⟨fun hy => ?_, fun _ => h0 r c hr⟩
      have er : r = a.length := by omega
      subst er
      rw [h0 _ c hr, List.drop_length, lcs_nil]
      rfl
    obtain ⟨r, hr, ht⟩ := l1_ev a b ha hb a.length T (Nat.le_refl _) hS hR
    refine ⟨r, Ev.step (fun k => ?_) hr, ht⟩
    rw [diff_table.l0, if_neg (by omega), w64 (by omega) (by omega)]
  | succ d ih =>
    intro i T hi hT hz
    have hrep : (List.replicate (wrap64 ((b.length : Int) + 1)).toNat (0 : Int)) = List.replicate (b.length + 1) 0 := by rw [w64 (by omega) (by omega), show ((b.length : Int) + 1).toNat = b.length + 1 by omega]
    obtain ⟨r, hr, ht⟩ := ih (i + 1) (T.set i (List.replicate (b.length + 1) 0)) (by omega) (by rw [List.length_set, hT]) (fun r hr => by
      rw [row_set _ _ _ _ (by omega)]
      split
      · rfl
      · exact hz r (by omega))
    refine ⟨r, Ev.step (fun k => ?_) hr, ht⟩
    rw [diff_table.l0, hrep, if_pos (by omega), if_pos (by rw [w64 (by omega) (by omega)]; omega), if_pos (by rw [w64 (by omega) (by omega)]; omega), if_pos (by omega), if_pos (by rw [hT]; omega), w64 (n := (i : Int) + 1) (by omega) (by omega), Int.toNat_natCast]
    rfl
theorem table_ev (a b : List ByteArray) (ha : a.length ≤ 4096) (hb : b.length ≤ 4096) : ∃ r, Ev (fun k => diff_table.f k a b) r ∧ IsTab a b r := by
  obtain ⟨r, hr, ht⟩ := l0_ev a b ha hb (a.length + 1) 0 (List.replicate (a.length + 1) []) (by omega) (by simp) (fun r hr => by omega)
  refine ⟨r, Ev.congr (fun k => ?_) hr, ht⟩
  unfold diff_table.f
  have e : wrap64 ((a.length : Int) + 1) = (a.length : Int) + 1 := w64 (by omega) (by omega)
  rw [e, if_pos (by omega), if_pos (by omega), show ((a.length : Int) + 1).toNat = a.length + 1 by omega]
  simp only [Option.bind_some, List.length_replicate]
  push_cast
  rfl
/-- The edits of an alignment, as Least's second loop makes them. -/
def edits (h : Int) : List Op → Nat → Nat → Bool → List S44 → List S44
  | [], _, _, _, out => out
  | Op.K :: o, i, j, _, out => edits h o (i + 1) (j + 1) false out
  | Op.D :: o, i, j, op, out => edits h o (i + 1) j true (diff_Least.del (diff_Least.open_ h i j op out))
  | Op.I :: o, i, j, op, out => edits h o i (j + 1) true (diff_Least.ins (diff_Least.open_ h i j op out))
theorem go_is (a b : List ByteArray) (T : List (List Int)) (hT : IsTab a b T) (h : Int) : ∀ (n i j : Nat) (op : Bool) (out : List S44), i ≤ a.length → j ≤ b.length → a.length - i + (b.length - j) < n →
    diff_Least.go a b T h n i j op out = some (edits h (greedy (a.drop i) (b.drop j)) i j op out) := by
  intro n
  induction n with
  | zero => intro i j op out _ _ h; omega
  | succ n ih =>
    intro i j op out hi hj hn
    rw [diff_Least.go]
    by_cases hia : i < a.length
    · rw [if_pos hia]
      by_cases hjb : j < b.length
      · rw [if_pos hjb, rdB_at a i hia, rdB_at b j hjb, drop_cons a i hia, drop_cons b j hjb, greedy]
        by_cases e : a[i] = b[j]
        · rw [if_pos (by rw [e]), if_pos e, edits]
          exact ih (i + 1) (j + 1) _ _ (by omega) (by omega) (by omega)
        · have ei : (i : Int) + 1 = ((i + 1 : Nat) : Int) := by omega
          have ej : (j : Int) + 1 = ((j + 1 : Nat) : Int) := by omega
          rw [if_neg (by rw [tl_inj]; exact e), if_neg e, if_pos (by rw [hT.1.1]; omega), if_pos (by rw [rd_row, hT.1.2 i (by omega)]; omega), if_pos (by rw [ei, rd_row, hT.1.2 (i + 1) (by omega)]; omega)]
          rw [ei, ej, rd_row, rd_row, rd_nat, rd_nat, ← ent_row, ← ent_row, hT.2 i (j + 1) (by omega) (by omega), hT.2 (i + 1) j (by omega) (by omega)]
          rw [← drop_cons a i hia, ← drop_cons b j hjb]
          by_cases c : lcs (a.drop i) (b.drop (j + 1)) ≤ lcs (a.drop (i + 1)) (b.drop j)
          · rw [if_pos (by omega), if_pos c, edits]
            exact ih (i + 1) j _ _ (by omega) (by omega) (by omega)
          · rw [if_neg (by omega), if_neg c, edits]
            exact ih i (j + 1) _ _ (by omega) (by omega) (by omega)
      · rw [if_neg hjb]
        have hb0 : b.drop j = [] := List.drop_eq_nil_of_le (by omega)
        rw [hb0, drop_cons a i hia, greedy, edits, ← hb0]
        exact ih (i + 1) j _ _ (by omega) (by omega) (by omega)
    · rw [if_neg hia]
      have ha0 : a.drop i = [] := List.drop_eq_nil_of_le (by omega)
      by_cases hjb : j < b.length
      · rw [if_pos hjb, ha0, drop_cons b j hjb, greedy, edits, ← ha0]
        exact ih i (j + 1) _ _ (by omega) (by omega) (by omega)
      · rw [if_neg hjb, ha0, List.drop_eq_nil_of_le (show b.length ≤ j by omega), greedy, edits]
end Go.Proofs.Ytikepmdhnbnohaa.Pl
end
-- text YtikepmdhnbnohaaPlLeast
section
/- What diff.Least answers: the script of the greedy alignment (lists of at most 4096 lines), and one edit or none beyond. Conditions: lists shorter than 2^62. -/
namespace Go.Proofs.Ytikepmdhnbnohaa.Pl
open Go.RowKit Go.Proofs.YtikepmdhnbnohaaW.PrintWords Go.Proofs.Ytikepmdhnbnohaa.P
set_option linter.unusedSimpArgs false
set_option linter.unusedVariables false
theorem equal_loop (a b : List ByteArray) (hl : a.length = b.length) (hb : a.length < 4611686018427387904) : ∀ (d i : Nat), i + d = a.length →
    Ev (fun k => slices_Equal_string_string.l0 k a b (a.length : Int) (i : Int)) (decide (a.drop i = b.drop i)) := by
  intro d
  induction d with
  | zero =>
    intro i hi
    refine Ev.end_ fun k => ?_
    rw [slices_Equal_string_string.l0, if_neg (by omega), List.drop_eq_nil_of_le (show a.length ≤ i by omega), List.drop_eq_nil_of_le (show b.length ≤ i by omega)]
    simp
  | succ d ih =>
    intro i hi
    by_cases e : a[i]'(by omega) = b[i]'(by omega)
    · have hd : (a.drop i = b.drop i) ↔ (a.drop (i + 1) = b.drop (i + 1)) := by
        rw [drop_cons a i (by omega), drop_cons b i (by omega), e]
        exact ⟨fun h => (List.cons.inj h).2, fun h => by rw [h]⟩
      rw [decide_eq_decide.2 hd]
      refine Ev.step (fun k => ?_) (ih (i + 1) (by omega))
      rw [slices_Equal_string_string.l0, if_pos (by omega), if_pos (by omega), if_pos (by omega), if_pos (by omega), rdB_at a i (by omega), rdB_at b i (by omega), if_pos (by rw [e]), w64 (by omega) (by omega)]
      rfl
    · have hd : ¬ a.drop i = b.drop i := by
        rw [drop_cons a i (by omega), drop_cons b i (by omega)]
        exact fun h => e (List.cons.inj h).1
      rw [decide_eq_false hd]
      refine Ev.end_ fun k => ?_
      rw [slices_Equal_string_string.l0, if_pos (by omega), if_pos (by omega), if_pos (by omega), if_pos (by omega), rdB_at a i (by omega), rdB_at b i (by omega), if_neg (by rw [tl_inj]; exact e)]
theorem equal_ev (a b : List ByteArray) (hb : a.length < 4611686018427387904) : Ev (fun k => slices_Equal_string_string.f k a b) (decide (a = b)) := by
  by_cases hl : a.length = b.length
  · have := equal_loop a b hl hb a.length 0 (by omega)
    refine Ev.congr (fun k => ?_) this
    unfold slices_Equal_string_string.f
    rw [if_pos (by omega)]
    rfl
  · refine ⟨0, fun k _ => ?_⟩
    show slices_Equal_string_string.f k a b = _
    unfold slices_Equal_string_string.f
    rw [if_neg (by omega), decide_eq_false (fun e => hl (by rw [e]))]
theorem last_snoc (out : List Ed) (e : Ed) : diff_Least.last (out ++ [e]) = e := by simp [diff_Least.last, List.getD_eq_getElem?_getD]
theorem del_snoc (out : List Ed) (e : Ed) : diff_Least.del (out ++ [e]) = out ++ [⟨e.f0, wrap64 (e.f1 + 1), e.f2, e.f3⟩] := by
  unfold diff_Least.del
  rw [last_snoc]
  simp
theorem ins_snoc (out : List Ed) (e : Ed) : diff_Least.ins (out ++ [e]) = out ++ [⟨e.f0, e.f1, e.f2, wrap64 (e.f3 + 1)⟩] := by
  unfold diff_Least.ins
  rw [last_snoc]
  simp
theorem edits_scr (h : Int) : ∀ (o : List Op) (i j : Nat), (∀ out, edits h o i j false out = out ++ scr o (h + i) (h + j) none ∨ 1000000 < o.length) ∧
    (∀ (out : List Ed) (e : Ed), 0 ≤ e.f1 → 0 ≤ e.f3 → e.f1 + o.length ≤ 2000000 → e.f3 + o.length ≤ 2000000 → edits h o i j true (out ++ [e]) = out ++ scr o (h + i) (h + j) (some e) ∨ 1000000 < o.length) := by
  intro o
  induction o with
  | nil => intro i j; exact ⟨fun out => .inl (by simp [edits, scr]), fun out e _ _ _ _ => .inl (by simp [edits, scr])⟩
  | cons q o ih =>
    intro i j
    by_cases hbig : 1000000 < (q :: o).length
    · exact ⟨fun _ => .inr hbig, fun _ _ _ _ _ _ => .inr hbig⟩
    have hlen : o.length < 1000000 := by simp only [List.length_cons] at hbig; omega
    have i1 : h + ((i + 1 : Nat) : Int) = h + i + 1 := by omega
    have j1 : h + ((j + 1 : Nat) : Int) = h + j + 1 := by omega
    cases q with
    | K =>
      have z := (ih (i + 1) (j + 1)).1
      rw [i1, j1] at z
      refine ⟨fun out => .inl ?_, fun out e _ _ _ _ => .inl ?_⟩
      · rw [edits, scr, (z out).resolve_right (by omega)]
        rfl
      · rw [edits, scr, (z (out ++ [e])).resolve_right (by omega), List.append_assoc]
        rfl
    | D =>
      have z := (ih (i + 1) j).2
      rw [i1] at z
      refine ⟨fun out => .inl ?_, fun out e h1 h3 h5 h6 => .inl ?_⟩
      · rw [edits, scr]
        have : diff_Least.open_ h i j false out = out ++ [⟨h + i, 0, h + j, 0⟩] := by unfold diff_Least.open_; rw [if_neg (by decide)]
        rw [this, del_snoc]
        dsimp only
        rw [w64 (n := 0 + 1) (by omega) (by omega), Int.zero_add]
        have zz := z out ⟨h + i, 1, h + j, 0⟩ (by dsimp only; omega) (by dsimp only; omega) (by dsimp only; omega) (by dsimp only; omega)
        exact zz.resolve_right (by omega)
      · rw [edits, scr]
        have : diff_Least.open_ h i j true (out ++ [e]) = out ++ [e] := by unfold diff_Least.open_; rw [if_pos rfl]
        simp only [List.length_cons] at h5 h6
        rw [this, del_snoc, w64 (by omega) (by omega)]
        have zz := z out ⟨e.f0, e.f1 + 1, e.f2, e.f3⟩ (by dsimp only; omega) (by dsimp only; omega) (by dsimp only; omega) (by dsimp only; omega)
        exact zz.resolve_right (by omega)
    | I =>
      have z := (ih i (j + 1)).2
      rw [j1] at z
      refine ⟨fun out => .inl ?_, fun out e h1 h3 h5 h6 => .inl ?_⟩
      · rw [edits, scr]
        have : diff_Least.open_ h i j false out = out ++ [⟨h + i, 0, h + j, 0⟩] := by unfold diff_Least.open_; rw [if_neg (by decide)]
        rw [this, ins_snoc]
        dsimp only
        rw [w64 (n := 0 + 1) (by omega) (by omega), Int.zero_add]
        have zz := z out ⟨h + i, 0, h + j, 1⟩ (by dsimp only; omega) (by dsimp only; omega) (by dsimp only; omega) (by dsimp only; omega)
        exact zz.resolve_right (by omega)
      · rw [edits, scr]
        have : diff_Least.open_ h i j true (out ++ [e]) = out ++ [e] := by unfold diff_Least.open_; rw [if_pos rfl]
        simp only [List.length_cons] at h5 h6
        rw [this, ins_snoc, w64 (by omega) (by omega)]
        have zz := z out ⟨e.f0, e.f1, e.f2, e.f3 + 1⟩ (by dsimp only; omega) (by dsimp only; omega) (by dsimp only; omega) (by dsimp only; omega)
        exact zz.resolve_right (by omega)
theorem scr_keeps (p : Nat) (o : List Op) : ∀ (i j : Int), scr (List.replicate p Op.K ++ o) i j none = scr o (i + p) (j + p) none := by
  induction p with
  | zero => intro i j; simp
  | succ p ih =>
    intro i j
    rw [List.replicate_succ, List.cons_append, scr, ih]
    simp only [Option.toList_none, List.nil_append]
    congr 1 <;> omega
theorem greedy_pre : ∀ (a b : List ByteArray), greedy a b = List.replicate (diff_Least.pre a b) Op.K ++ greedy (a.drop (diff_Least.pre a b)) (b.drop (diff_Least.pre a b))
  | [], b => by rw [diff_Least.pre]; rfl; intro _ _ _ _ h; cases h
  | x :: a, [] => by rw [diff_Least.pre]; rfl; intro _ _ _ _ _ h; cases h
  | x :: a, y :: b => by
    rw [diff_Least.pre]
    by_cases e : x = y
    · rw [if_pos (by rw [e]), greedy, if_pos e, List.replicate_succ, List.cons_append, List.drop_succ_cons, List.drop_succ_cons, ← greedy_pre a b]
    · rw [if_neg (by rw [tl_inj]; exact e)]
      rfl
theorem greedy_len (a b : List ByteArray) : (greedy a b).length ≤ a.length + b.length := by
  have h := (greedy_is a b).lens
  have : (greedy a b).length = kept (greedy a b) + paid (greedy a b) := by
    unfold kept paid
    have := List.length_eq_countP_add_countP (fun q => q == Op.K) (l := greedy a b)
    rw [this]
    congr 1
    apply List.countP_congr
    intro q _
    cases q <;> simp
  omega
def leastEd (a b : List ByteArray) : List Ed := if 4096 < a.length ∨ 4096 < b.length then (if a = b then [] else [⟨0, a.length, 0, b.length⟩]) else scr (greedy a b) 0 0 none
theorem pre_le : ∀ (a b : List ByteArray), diff_Least.pre a b ≤ a.length ∧ diff_Least.pre a b ≤ b.length
  | [], b => by rw [diff_Least.pre]; simp; intro _ _ _ _ h; cases h
  | x :: a, [] => by rw [diff_Least.pre]; simp; intro _ _ _ _ _ h; cases h
  | x :: a, y :: b => by
    rw [diff_Least.pre]
    have := pre_le a b
    simp only [List.length_cons]
    split <;> omega
theorem least_ev (a b : List ByteArray) (ha : a.length < 4611686018427387904) : Ev (fun k => diff_Least.f k a b) (leastEd a b) := by
  unfold leastEd
  by_cases c : 4096 < a.length ∨ 4096 < b.length
  · rw [if_pos c]
    have := Ev.bind (equal_ev a b ha) (f := fun _ e => some (if e = true then [] else [(⟨0, (a.length : Int), 0, (b.length : Int)⟩ : Ed)])) (r := if a = b then [] else [⟨0, a.length, 0, b.length⟩]) (Ev.some_ fun k => by
      by_cases e : a = b
      · rw [decide_eq_true e, if_pos rfl, if_pos e]
      · rw [decide_eq_false e, if_neg e]; rfl)
    refine Ev.congr (fun k => ?_) this
    unfold diff_Least.f
    rw [if_pos c]
  · rw [if_neg c]
    have hp := pre_le a b
    obtain ⟨T, hT, hTab⟩ := table_ev (a.drop (diff_Least.pre a b)) (b.drop (diff_Least.pre a b)) (by rw [List.length_drop]; omega) (by rw [List.length_drop]; omega)
    have hg := go_is _ _ T hTab (diff_Least.pre a b : Nat) ((a.drop (diff_Least.pre a b)).length + (b.drop (diff_Least.pre a b)).length + 1) 0 0 false [] (by omega) (by omega) (by omega)
    rw [List.drop_zero, List.drop_zero] at hg
    have hl := greedy_len (a.drop (diff_Least.pre a b)) (b.drop (diff_Least.pre a b))
    rw [List.length_drop, List.length_drop] at hl
    have he := ((edits_scr (diff_Least.pre a b : Nat) (greedy (a.drop (diff_Least.pre a b)) (b.drop (diff_Least.pre a b))) 0 0).1 []).resolve_right (by omega)
    have hs : scr (greedy a b) 0 0 none = scr (greedy (a.drop (diff_Least.pre a b)) (b.drop (diff_Least.pre a b))) (diff_Least.pre a b : Nat) (diff_Least.pre a b : Nat) none := by
      rw [greedy_pre a b, scr_keeps, Int.zero_add]
    rw [hs]
    simp only [List.nil_append, Int.natCast_zero, Int.add_zero] at he
    rw [he] at hg
    have := Ev.bind hT (f := fun _ t => diff_Least.go (a.drop (diff_Least.pre a b)) (b.drop (diff_Least.pre a b)) t (diff_Least.pre a b : Nat) ((a.drop (diff_Least.pre a b)).length + (b.drop (diff_Least.pre a b)).length + 1) 0 0 false []) (Ev.some_ fun k => hg)
    refine Ev.congr (fun k => ?_) this
    unfold diff_Least.f
    rw [if_neg c]
end Go.Proofs.Ytikepmdhnbnohaa.Pl
end
-- text YtikepmdhnbnohaaPlLives8
section
/- The document's examples hold; what Cost answers; that 'short' answers. Conditions: none. -/
namespace Go.Proofs.Ytikepmdhnbnohaa.Pl
open Go.RowKit Go.Proofs.YtikepmdhnbnohaaW.PrintWords Go.Proofs.Ytikepmdhnbnohaa.P
set_option linter.unusedSimpArgs false
set_option linter.unusedVariables false
theorem wrap_l (x y : Int) : wrap64 (wrap64 x + y) = wrap64 (x + y) := by unfold wrap64; omega
theorem wrap_r (x y : Int) : wrap64 (x + wrap64 y) = wrap64 (x + y) := by unfold wrap64; omega
theorem rdE_at (l : List Ed) (i : Nat) (h : i < l.length) : rd_T44 l (i : Int) = l[i] := by
  unfold rd_T44
  rw [Int.toNat_natCast, List.getD_eq_getElem?_getD, List.getElem?_eq_getElem h]
  rfl
theorem cost_loop (l : List Ed) (hl : l.length < 4611686018427387904) : ∀ (d i : Nat) (c : Int), i + d = l.length → Ev (fun k => diff_Cost.l0 k (wrap64 c) l (l.length : Int) (i : Int)) (wrap64 (c + cost (l.drop i))) := by
  intro d
  induction d with
  | zero =>
    intro i c hi
    refine Ev.end_ fun k => ?_
    rw [diff_Cost.l0, if_neg (by omega), List.drop_eq_nil_of_le (show l.length ≤ i by omega), cost_nil, Int.add_zero]
  | succ d ih =>
    intro i c hi
    have hil : i < l.length := by omega
    rw [drop_cons l i hil, cost_cons, show c + (l[i].f1 + l[i].f3 + cost (l.drop (i + 1))) = c + (l[i].f1 + l[i].f3) + cost (l.drop (i + 1)) by omega]
    refine Ev.step (fun k => ?_) (ih (i + 1) (c + (l[i].f1 + l[i].f3)) (by omega))
    rw [diff_Cost.l0, if_pos (by omega), if_pos (by omega), if_pos (by omega), rdE_at l i hil, wrap_l, wrap_r, w64 (n := (i : Int) + 1) (by omega) (by omega)]
    rfl
theorem cost_ev (l : List Ed) (hl : l.length < 4611686018427387904) : Ev (fun k => diff_Cost.f k l) (wrap64 (cost l)) := by
  have := cost_loop l hl l.length 0 0 (by omega)
  rw [List.drop_zero, Int.zero_add, w64 (n := 0) (by omega) (by omega)] at this
  exact this
theorem short_loop (l : List ByteArray) (a1 a2 : Int) (hl : l.length < 4611686018427387904) : ∀ (d i : Nat) (c : Int), i + d = l.length → ∃ r, Ev (fun k => graftageref05_Short.l0 k l a1 a2 c (l.length : Int) (i : Int)) r ∧ (r = true → (l.length : Int) ≤ a1) := by
  intro d
  induction d with
  | zero =>
    intro i c hi
    refine ⟨decide ((l.length : Int) ≤ a1), Ev.end_ fun k => ?_, fun h => of_decide_eq_true h⟩
    rw [graftageref05_Short.l0, if_neg (by omega)]
  | succ d ih =>
    intro i c hi
    by_cases hc : wrap64 (c + ((rdOf ByteArray.empty l (i : Int)).size : Int)) > a2
    · refine ⟨false, Ev.end_ fun k => ?_, by simp⟩
      rw [graftageref05_Short.l0, if_pos (by omega), if_pos (by omega), if_pos (by omega), if_pos hc]
    · obtain ⟨r, hr, hh⟩ := ih (i + 1) (wrap64 (c + ((rdOf ByteArray.empty l (i : Int)).size : Int))) (by omega)
      refine ⟨r, Ev.step (fun k => ?_) hr, hh⟩
      rw [graftageref05_Short.l0, if_pos (by omega), if_pos (by omega), if_pos (by omega), if_neg hc, w64 (n := (i : Int) + 1) (by omega) (by omega)]
      rfl
/-- 'short' answers; if it says yes there are at most 60 lines. -/
theorem short_ev (l : List ByteArray) (hl : l.length < 4611686018427387904) : ∃ r, Ev (fun k => graftagelaw08_short.f k l) r ∧ (r = true → l.length ≤ 60) := by
  obtain ⟨r, hr, hh⟩ := short_loop l 60 3000 hl l.length 0 0 (by omega)
  refine ⟨r, ?_, fun h => by have := hh h; omega⟩
  have := Ev.bind (f := fun _ t => some t) hr (Ev.now r)
  exact this
theorem least_one : leastEd [(⟨#[97]⟩ : ByteArray), ⟨#[98]⟩, ⟨#[99]⟩] [⟨#[98]⟩, ⟨#[100]⟩] = [⟨0, 1, 0, 0⟩, ⟨2, 1, 1, 1⟩] := by
  unfold leastEd
  rw [if_neg (by decide)]
  simp [greedy, lcs, scr]
theorem least_two : leastEd [(⟨#[97]⟩ : ByteArray)] [⟨#[98]⟩] = [⟨0, 1, 0, 1⟩] := by
  unfold leastEd
  rw [if_neg (by decide)]
  simp [greedy, lcs, scr]
theorem lives_ev : Ev (fun k => graftagelaw08_lives.f k) true := by
  unfold graftagelaw08_lives.f
  refine Ev.bind (least_ev _ _ (by decide)) ?_
  refine Ev.bind (least_ev _ _ (by decide)) ?_
  rw [least_one, least_two]
  have hc := cost_ev [⟨0, 1, 0, 0⟩, ⟨2, 1, 1, 1⟩] (by decide)
  have := Ev.bind (f := fun _ t => some (t == 3)) hc (r := true) (Ev.some_ fun k => by simp [cost, wrap64])
  refine Ev.congr (fun k => ?_) this
  simp [rd_T44]
end Go.Proofs.Ytikepmdhnbnohaa.Pl
end
-- text YtikepmdhnbnohaaPlValid8
section
/- diff.Valid answers whether a script is valid ('Scr'). Conditions: lists shorter than 2^40, whole numbers of their kind. -/
namespace Go.Proofs.Ytikepmdhnbnohaa.Pl
open Go.RowKit Go.Proofs.YtikepmdhnbnohaaW.PrintWords Go.Proofs.Ytikepmdhnbnohaa.P
set_option linter.unusedSimpArgs false
set_option linter.unusedVariables false
/-- An edit lies within n and m lines. -/
def Lies (e : Ed) (n m : Int) : Prop := 0 ≤ e.f0 ∧ 0 ≤ e.f2 ∧ 0 ≤ e.f1 ∧ 0 ≤ e.f3 ∧ e.f0 + e.f1 ≤ n ∧ e.f2 + e.f3 ≤ m
def EdI (e : Ed) : Prop := (-9223372036854775808 ≤ e.f0 ∧ e.f0 ≤ 9223372036854775807) ∧ (-9223372036854775808 ≤ e.f1 ∧ e.f1 ≤ 9223372036854775807) ∧ (-9223372036854775808 ≤ e.f2 ∧ e.f2 ≤ 9223372036854775807) ∧ (-9223372036854775808 ≤ e.f3 ∧ e.f3 ≤ 9223372036854775807)
theorem lies_is (e : Ed) (he : EdI e) (n m : Int) (hn0 : 0 ≤ n) (hn : n ≤ 4611686018427387904) (hm0 : 0 ≤ m) (hm : m ≤ 4611686018427387904) : ∃ r, diff_lies.f e.f0 e.f1 e.f2 e.f3 n m = some r ∧ (r = true ↔ Lies e n m) := by
  obtain ⟨h0, h1, h2, h3⟩ := he
  unfold diff_lies.f Lies
  by_cases c0 : e.f0 ≥ 0
  · rw [if_pos c0]
    by_cases c2 : e.f2 ≥ 0
    · rw [if_pos c2]
      by_cases c1 : e.f1 ≥ 0
      · rw [if_pos c1]
        by_cases c3 : e.f3 ≥ 0
        · rw [if_pos c3]
          by_cases c4 : e.f0 ≤ n
          · rw [if_pos c4, w64 (n := n - e.f0) (by omega) (by omega)]
            by_cases c5 : e.f1 ≤ n - e.f0
            · rw [if_pos c5]
              by_cases c6 : e.f2 ≤ m
              · rw [if_pos c6, w64 (n := m - e.f2) (by omega) (by omega)]
                exact ⟨_, rfl, by rw [decide_eq_true_iff]; omega⟩
              · rw [if_neg c6]; exact ⟨_, rfl, by simp; omega⟩
            · rw [if_neg c5]; exact ⟨_, rfl, by simp; omega⟩
          · rw [if_neg c4]; exact ⟨_, rfl, by simp; omega⟩
        · rw [if_neg c3]; exact ⟨_, rfl, by simp; omega⟩
      · rw [if_neg c1]; exact ⟨_, rfl, by simp; omega⟩
    · rw [if_neg c2]; exact ⟨_, rfl, by simp; omega⟩
  · rw [if_neg c0]; exact ⟨_, rfl, by simp; omega⟩
/-- A valid script, edit by edit, told of the whole lists and two places. -/
theorem Scr.cons_iff {α : Type} (f : Bool) (a b : List α) (i j : Nat) (hi : i ≤ a.length) (hj : j ≤ b.length) (e : Ed) (l : List Ed) :
    Scr f (i : Int) (j : Int) (a.drop i) (b.drop j) (e :: l) ↔ Lies e a.length b.length ∧ ¬ (e.f1 = 0 ∧ e.f3 = 0) ∧ (i : Int) ≤ e.f0 ∧ (j : Int) ≤ e.f2 ∧ (f = true ∨ e.f0 ≠ i) ∧ (a.take e.f0.toNat).drop i = (b.take e.f2.toNat).drop j ∧
      Scr false (e.f0 + e.f1) (e.f2 + e.f3) (a.drop (e.f0 + e.f1).toNat) (b.drop (e.f2 + e.f3).toNat) l := by
  constructor
  · intro h
    generalize ha : a.drop i = A at h
    generalize hb : b.drop j = B at h
    cases h with
    | edit _ _ _ c d e' a' b' _ h1 h2 h =>
      have la : a.length = i + (c.length + (d.length + a'.length)) := by
        have := congrArg List.length ha
        rw [List.length_drop] at this
        simp only [List.length_append] at this
        omega
      have lb : b.length = j + (c.length + (e'.length + b'.length)) := by
        have := congrArg List.length hb
        rw [List.length_drop] at this
        simp only [List.length_append] at this
        omega
      have ea : a = a.take i ++ (c ++ (d ++ a')) := by rw [← ha, List.take_append_drop]
      have eb : b = b.take j ++ (c ++ (e' ++ b')) := by rw [← hb, List.take_append_drop]
      have ta : (a.take i).length = i := by rw [List.length_take]; omega
      have tb : (b.take j).length = j := by rw [List.length_take]; omega
      dsimp only
      refine ⟨⟨?_, ?_, ?_, ?_, ?_, ?_⟩, ?_, ?_, ?_, ?_, ?_, ?_⟩
      · dsimp only; omega
      · dsimp only; omega
      · dsimp only; omega
      · dsimp only; omega
      · dsimp only; omega
      · dsimp only; omega
      · rintro ⟨z1, z2⟩
        rcases h2 with h2 | h2
        · exact h2 (List.eq_nil_of_length_eq_zero (by omega))
        · exact h2 (List.eq_nil_of_length_eq_zero (by omega))
      · omega
      · omega
      · rcases h1 with h1 | h1
        · exact .inl h1
        · refine .inr fun z => h1 (List.eq_nil_of_length_eq_zero (by omega))
      · have n1 : ((i : Int) + c.length).toNat = i + c.length := by omega
        have n2 : ((j : Int) + c.length).toNat = j + c.length := by omega
        rw [n1, n2]
        have x1 : (a.take (i + c.length)).drop i = c := by
          rw [List.drop_take, ha, Nat.add_sub_cancel_left, List.take_left]
        have x2 : (b.take (j + c.length)).drop j = c := by
          rw [List.drop_take, hb, Nat.add_sub_cancel_left, List.take_left]
        rw [x1, x2]
      · have n1 : ((i : Int) + c.length + d.length).toNat = i + (c.length + d.length) := by omega
        have n2 : ((j : Int) + c.length + e'.length).toNat = j + (c.length + e'.length) := by omega
        rw [n1, n2, show a.drop (i + (c.length + d.length)) = a' from by rw [← List.drop_drop, ha, ← List.append_assoc, List.drop_left' (by simp)], show b.drop (j + (c.length + e'.length)) = b' from by rw [← List.drop_drop, hb, ← List.append_assoc, List.drop_left' (by simp)]]
        exact h
  · rintro ⟨⟨g0, g2, g1, g3, g4, g5⟩, hne, hi2, hj2, hf, hc, h⟩
    have n0 : (e.f0.toNat : Int) = e.f0 := by omega
    have n2 : (e.f2.toNat : Int) = e.f2 := by omega
    have lc1 : ((a.take e.f0.toNat).drop i).length = e.f0.toNat - i := by rw [List.length_drop, List.length_take]; omega
    have lc2 : ((b.take e.f2.toNat).drop j).length = e.f2.toNat - j := by rw [List.length_drop, List.length_take]; omega
    have ld1 : ((a.drop e.f0.toNat).take e.f1.toNat).length = e.f1.toNat := by rw [List.length_take, List.length_drop]; omega
    have ld2 : ((b.drop e.f2.toNat).take e.f3.toNat).length = e.f3.toNat := by rw [List.length_take, List.length_drop]; omega
    have lcc : e.f0.toNat - i = e.f2.toNat - j := by rw [← lc1, hc, lc2]
    have sa : a.drop i = (a.take e.f0.toNat).drop i ++ ((a.drop e.f0.toNat).take e.f1.toNat ++ a.drop (e.f0 + e.f1).toNat) := by
      have z : (e.f0 + e.f1).toNat = e.f0.toNat + e.f1.toNat := by omega
      rw [z, ← List.drop_drop, List.take_append_drop, List.drop_take]
      have z2 : e.f0.toNat = i + (e.f0.toNat - i) := by omega
      have : a.drop e.f0.toNat = (a.drop i).drop (e.f0.toNat - i) := by rw [List.drop_drop, ← z2]
      rw [this, List.take_append_drop]
    have sb : b.drop j = (b.take e.f2.toNat).drop j ++ ((b.drop e.f2.toNat).take e.f3.toNat ++ b.drop (e.f2 + e.f3).toNat) := by
      have z : (e.f2 + e.f3).toNat = e.f2.toNat + e.f3.toNat := by omega
      rw [z, ← List.drop_drop, List.take_append_drop, List.drop_take]
      have z2 : e.f2.toNat = j + (e.f2.toNat - j) := by omega
      have : b.drop e.f2.toNat = (b.drop j).drop (e.f2.toNat - j) := by rw [List.drop_drop, ← z2]
      rw [this, List.take_append_drop]
    rw [sa, sb, ← hc]
    have key := Scr.edit f (i : Int) (j : Int) ((a.take e.f0.toNat).drop i) ((a.drop e.f0.toNat).take e.f1.toNat) ((b.drop e.f2.toNat).take e.f3.toNat) (a.drop (e.f0 + e.f1).toNat) (b.drop (e.f2 + e.f3).toNat) l ?_ ?_ ?_
    · have ee : (⟨(i : Int) + ((a.take e.f0.toNat).drop i).length, ((a.drop e.f0.toNat).take e.f1.toNat).length, (j : Int) + ((a.take e.f0.toNat).drop i).length, ((b.drop e.f2.toNat).take e.f3.toNat).length⟩ : Ed) = e := by
        rw [lc1, ld1, ld2]
        cases e
        congr 1 <;> (dsimp only at *; omega)
      rw [ee] at key
      exact key
    · rcases hf with hf | hf
      · exact .inl hf
      · refine .inr fun z => hf ?_
        rw [z] at lc1
        simp at lc1
        omega
    · by_cases c1 : e.f1 = 0
      · refine .inr fun z => hne ⟨c1, ?_⟩
        rw [z] at ld2
        simp at ld2
        omega
      · refine .inl fun z => c1 ?_
        rw [z] at ld1
        simp at ld1
        omega
    · rw [lc1, ld1, ld2]
      rw [show (i : Int) + ((e.f0.toNat - i : Nat) : Int) + (e.f1.toNat : Int) = e.f0 + e.f1 by omega, show (j : Int) + ((e.f0.toNat - i : Nat) : Int) + (e.f3.toNat : Int) = e.f2 + e.f3 by omega]
      exact h
theorem Scr.nil_iff {α : Type} (f : Bool) (i j : Int) (a b : List α) : Scr f i j a b [] ↔ a = b := by
  constructor
  · intro h
    cases h
    rfl
  · rintro rfl
    exact Scr.nil f i j a
theorem within_is (e : Ed) (he : EdI e) (x y n m : Int) (q1 q2 : Int) (hx : 0 ≤ x) (hy : 0 ≤ y) (hn0 : 0 ≤ n) (hn : n ≤ 4611686018427387904) (hm0 : 0 ≤ m) (hm : m ≤ 4611686018427387904) : ∃ r, graftageref08_within.f e.f0 e.f1 e.f2 e.f3 x q1 y q2 n m = some r ∧ (r = true ↔ Lies e n m ∧ x ≤ e.f0 ∧ y ≤ e.f2) := by
  obtain ⟨h0, h1, h2, h3⟩ := he
  unfold graftageref08_within.f Lies
  by_cases c0 : e.f0 < x
  · rw [if_pos c0]; exact ⟨_, rfl, by simp; omega⟩
  rw [if_neg c0]
  by_cases c2 : e.f2 < y
  · rw [if_pos c2]; exact ⟨_, rfl, by simp; omega⟩
  rw [if_neg c2]
  by_cases c1 : e.f1 < 0
  · rw [if_pos c1]; exact ⟨_, rfl, by simp; omega⟩
  rw [if_neg c1]
  by_cases c3 : e.f3 < 0
  · rw [if_pos c3]; exact ⟨_, rfl, by simp; omega⟩
  rw [if_neg c3]
  by_cases c4 : e.f0 > n
  · rw [if_pos c4]; exact ⟨_, rfl, by simp; omega⟩
  rw [if_neg c4]
  by_cases c5 : e.f2 > m
  · rw [if_pos c5]; exact ⟨_, rfl, by simp; omega⟩
  rw [if_neg c5, w64 (n := n - e.f0) (by omega) (by omega), w64 (n := m - e.f2) (by omega) (by omega)]
  by_cases c6 : e.f1 ≤ n - e.f0
  · rw [if_pos c6]
    exact ⟨_, rfl, by rw [decide_eq_true_iff]; omega⟩
  · rw [if_neg c6]; exact ⟨_, rfl, by simp; omega⟩
theorem same_loop (a b : List ByteArray) (hl : a.length = b.length) (hb : a.length < 4611686018427387904) : ∀ (d i : Nat), i + d = a.length →
    Ev (fun k => graftageref08_Same.l0 k a b (a.length : Int) (i : Int)) (decide (a.drop i = b.drop i)) := by
  intro d
  induction d with
  | zero =>
    intro i hi
    refine Ev.end_ fun k => ?_
    rw [graftageref08_Same.l0, if_neg (by omega), List.drop_eq_nil_of_le (show a.length ≤ i by omega), List.drop_eq_nil_of_le (show b.length ≤ i by omega)]
    simp
  | succ d ih =>
    intro i hi
    by_cases e : a[i]'(by omega) = b[i]'(by omega)
    · have hd : (a.drop i = b.drop i) ↔ (a.drop (i + 1) = b.drop (i + 1)) := by
        rw [drop_cons a i (by omega), drop_cons b i (by omega), e]
        exact ⟨fun h => (List.cons.inj h).2, fun h => by rw [h]⟩
      rw [decide_eq_decide.2 hd]
      refine Ev.step (fun k => ?_) (ih (i + 1) (by omega))
      rw [graftageref08_Same.l0, if_pos (by omega), if_pos (by omega), if_pos (by omega), if_pos (by omega), rdB_at a i (by omega), rdB_at b i (by omega), if_pos (by rw [e]), w64 (by omega) (by omega)]
      rfl
    · have hd : ¬ a.drop i = b.drop i := by
        rw [drop_cons a i (by omega), drop_cons b i (by omega)]
        exact fun h => e (List.cons.inj h).1
      rw [decide_eq_false hd]
      refine Ev.end_ fun k => ?_
      rw [graftageref08_Same.l0, if_pos (by omega), if_pos (by omega), if_pos (by omega), if_pos (by omega), rdB_at a i (by omega), rdB_at b i (by omega), if_neg (by rw [tl_inj]; exact e)]
theorem same_ev (a b : List ByteArray) (hb : a.length < 4611686018427387904) : Ev (fun k => graftageref08_Same.f k a b) (decide (a = b)) := by
  by_cases hl : a.length = b.length
  · have := same_loop a b hl hb a.length 0 (by omega)
    refine Ev.congr (fun k => ?_) this
    unfold graftageref08_Same.f
    rw [if_pos (by omega)]
    rfl
  · refine ⟨0, fun k _ => ?_⟩
    show graftageref08_Same.f k a b = _
    unfold graftageref08_Same.f
    rw [if_neg (by omega), decide_eq_false (fun e => hl (by rw [e]))]
/-- diff.Valid's loop. -/
theorem valid_loop (a b : List ByteArray) (l : List Ed) (ha : a.length < 1099511627776) (hb : b.length < 1099511627776) (hl : l.length < 1099511627776) (hg : ∀ e ∈ l, EdI e) : ∀ (d i x y : Nat), i + d = l.length → x ≤ a.length → y ≤ b.length →
    ∃ r, Ev (fun k => diff_Valid.l0 k a b (x : Int) (y : Int) l (l.length : Int) (i : Int)) r ∧ (r = true ↔ Scr (decide (i = 0)) (x : Int) (y : Int) (a.drop x) (b.drop y) (l.drop i)) := by
  intro d
  induction d with
  | zero =>
    intro i x y hi hx hy
    refine ⟨decide (a.drop x = b.drop y), ?_, ?_⟩
    · have e := Ev.bind (f := fun _ t => some t) (equal_ev (a.drop x) (b.drop y) (by rw [List.length_drop]; omega)) (Ev.now _)
      refine Ev.step (fun k => ?_) e
      rw [diff_Valid.l0, if_neg (by omega), if_pos (by omega), if_pos (by omega), if_pos (by omega), if_pos (by omega), Int.toNat_natCast, Int.toNat_natCast]
    · rw [List.drop_eq_nil_of_le (show l.length ≤ i by omega), Scr.nil_iff, decide_eq_true_iff]
  | succ d ih =>
    intro i x y hi hx hy
    have hil : i < l.length := by omega
    obtain ⟨e, hee⟩ : ∃ e, e = l[i] := ⟨_, rfl⟩
    have he : EdI e := by rw [hee]; exact hg _ (List.getElem_mem hil)
    have hre : rd_T44 l (i : Int) = e := by rw [rdE_at l i hil, hee]
    rw [drop_cons l i hil, ← hee, Scr.cons_iff _ a b x y hx hy]
    obtain ⟨r, hr, hri⟩ := lies_is e he a.length b.length (by omega) (by omega) (by omega) (by omega)
    have bad : ∃ q, (∀ k, diff_Valid.l0 (k + 1) a b (x : Int) (y : Int) l (l.length : Int) (i : Int) = diff_Valid.j1 k a b (x : Int) (y : Int) l (l.length : Int) (i : Int) q e.f0 e.f1 e.f2 e.f3) ∧
        (q = true ↔ ¬ (Lies e a.length b.length ∧ ¬ (e.f1 = 0 ∧ e.f3 = 0) ∧ (x : Int) ≤ e.f0 ∧ (y : Int) ≤ e.f2 ∧ (decide (i = 0) = true ∨ e.f0 ≠ x))) := by
      have hstep : ∀ k, diff_Valid.l0 (k + 1) a b (x : Int) (y : Int) l (l.length : Int) (i : Int) = _ := fun k => by
        rw [diff_Valid.l0, if_pos (by omega), if_pos (by omega), if_pos (by omega), hre, hr, Option.bind_some]
      cases r with
      | false =>
        have : ¬ Lies e a.length b.length := fun z => by
          have := hri.2 z
          cases this
        exact ⟨true, fun k => by rw [hstep, if_neg (by simp)], by simp [this]⟩
      | true =>
        have hL : Lies e a.length b.length := hri.1 rfl
        have rest : ∃ q, (∀ k, (if e.f0 < (x : Int) then (diff_Valid.j1 k a b (x : Int) (y : Int) l (l.length : Int) (i : Int) true e.f0 e.f1 e.f2 e.f3) else (if e.f2 < (y : Int) then (diff_Valid.j1 k a b (x : Int) (y : Int) l (l.length : Int) (i : Int) true e.f0 e.f1 e.f2 e.f3) else (if (i : Int) > 0 then (diff_Valid.j1 k a b (x : Int) (y : Int) l (l.length : Int) (i : Int) (e.f0 == (x : Int)) e.f0 e.f1 e.f2 e.f3) else (diff_Valid.j1 k a b (x : Int) (y : Int) l (l.length : Int) (i : Int) false e.f0 e.f1 e.f2 e.f3)))) = diff_Valid.j1 k a b (x : Int) (y : Int) l (l.length : Int) (i : Int) q e.f0 e.f1 e.f2 e.f3) ∧
          (q = true ↔ ¬ ((x : Int) ≤ e.f0 ∧ (y : Int) ≤ e.f2 ∧ (decide (i = 0) = true ∨ e.f0 ≠ x))) := by
          by_cases c1 : e.f0 < (x : Int)
          · exact ⟨true, fun k => by rw [if_pos c1], by simp; omega⟩
          by_cases c2 : e.f2 < (y : Int)
          · exact ⟨true, fun k => by rw [if_neg c1, if_pos c2], by simp; omega⟩
          by_cases c3 : (i : Int) > 0
          · refine ⟨_, fun k => by rw [if_neg c1, if_neg c2, if_pos c3], ?_⟩
            rw [beq_iff_eq, decide_eq_true_iff]
            constructor
            · rintro z ⟨_, _, z3⟩
              rcases z3 with z3 | z3
              · omega
              · exact z3 z
            · intro z
              by_cases z4 : e.f0 = (x : Int)
              · exact z4
              · exact absurd ⟨by omega, by omega, .inr z4⟩ z
          · refine ⟨_, fun k => by rw [if_neg c1, if_neg c2, if_neg c3], ?_⟩
            have : i = 0 := by omega
            simp [this]
            omega
        obtain ⟨q, hq, hqi⟩ := rest
        by_cases c0 : e.f1 = 0 ∧ e.f3 = 0
        · exact ⟨true, fun k => by rw [hstep, if_pos rfl, if_pos c0.1, if_pos c0.2], by simp [c0]⟩
        · refine ⟨q, fun k => ?_, ?_⟩
          · rw [hstep, if_pos rfl, hq]
            by_cases c1 : e.f1 = 0
            · rw [if_pos c1, if_neg (fun z => c0 ⟨c1, z⟩)]
            · rw [if_neg c1]
          · rw [hqi]
            constructor
            · rintro z ⟨_, _, z1, z2, z3⟩
              exact z ⟨z1, z2, z3⟩
            · rintro z ⟨z1, z2, z3⟩
              exact z ⟨hL, c0, z1, z2, z3⟩
    obtain ⟨q, hq, hqi⟩ := bad
    cases q with
    | true =>
      refine ⟨false, Ev.step (fun k => hq k) (Ev.end_ fun k => by rw [diff_Valid.j1, if_pos rfl]), ?_⟩
      have := hqi.1 rfl
      constructor
      · intro z
        cases z
      · rintro ⟨z1, z2, z3, z4, z5, _⟩
        exact absurd ⟨z1, z2, z3, z4, z5⟩ this
    | false =>
      have good : Lies e a.length b.length ∧ ¬ (e.f1 = 0 ∧ e.f3 = 0) ∧ (x : Int) ≤ e.f0 ∧ (y : Int) ≤ e.f2 ∧ (decide (i = 0) = true ∨ e.f0 ≠ x) := by
        refine Classical.byContradiction fun z => ?_
        have := hqi.2 z
        cases this
      obtain ⟨g1, g2, g3, g4, g5⟩ := good
      obtain ⟨L1, L2, L3, L4, L5, L6⟩ := id g1
      have e1 : (e.f0 + e.f1) = (((e.f0 + e.f1).toNat : Nat) : Int) := by omega
      have e2 : (e.f2 + e.f3) = (((e.f2 + e.f3).toNat : Nat) : Int) := by omega
      obtain ⟨r', hr', hri'⟩ := ih (i + 1) (e.f0 + e.f1).toNat (e.f2 + e.f3).toNat (by omega) (by omega) (by omega)
      rw [show decide (i + 1 = 0) = false by simp, ← e1, ← e2] at hri'
      have heq := equal_ev ((a.take e.f0.toNat).drop x) ((b.take e.f2.toNat).drop y) (by rw [List.length_drop, List.length_take]; omega)
      by_cases c : (a.take e.f0.toNat).drop x = (b.take e.f2.toNat).drop y
      · rw [decide_eq_true c] at heq
        refine ⟨r', Ev.step (fun k => hq k) (Ev.step (fun k => ?_) (Ev.bind (f := fun k t => if t = true then diff_Valid.l0 k a b (((e.f0 + e.f1).toNat : Nat) : Int) (((e.f2 + e.f3).toNat : Nat) : Int) l (l.length : Int) ((i + 1 : Nat) : Int) else some false) heq (by simpa using hr'))), ?_⟩
        · rw [diff_Valid.j1, if_neg (by simp), if_pos (by omega), if_pos (by omega), if_pos (by omega), if_pos (by omega), if_pos (by omega), if_pos (by omega), w64 (n := e.f0 + e.f1) (by omega) (by omega), w64 (n := e.f2 + e.f3) (by omega) (by omega), w64 (n := (i : Int) + 1) (by omega) (by omega), Int.toNat_natCast, Int.toNat_natCast, ← e1, ← e2]
          rfl
        · rw [hri']
          exact ⟨fun z => ⟨g1, g2, g3, g4, g5, c, z⟩, fun z => z.2.2.2.2.2.2⟩
      · rw [decide_eq_false c] at heq
        refine ⟨false, Ev.step (fun k => hq k) (Ev.step (fun k => ?_) (Ev.bind (f := fun k t => if t = true then diff_Valid.l0 k a b (((e.f0 + e.f1).toNat : Nat) : Int) (((e.f2 + e.f3).toNat : Nat) : Int) l (l.length : Int) ((i + 1 : Nat) : Int) else some false) heq (by simpa using Ev.now false))), ?_⟩
        · rw [diff_Valid.j1, if_neg (by simp), if_pos (by omega), if_pos (by omega), if_pos (by omega), if_pos (by omega), if_pos (by omega), if_pos (by omega), w64 (n := e.f0 + e.f1) (by omega) (by omega), w64 (n := e.f2 + e.f3) (by omega) (by omega), w64 (n := (i : Int) + 1) (by omega) (by omega), Int.toNat_natCast, Int.toNat_natCast, ← e1, ← e2]
          rfl
        · constructor
          · intro z
            cases z
          · intro z
            exact absurd z.2.2.2.2.2.1 c
theorem valid_ev (a b : List ByteArray) (l : List Ed) (ha : a.length < 1099511627776) (hb : b.length < 1099511627776) (hl : l.length < 1099511627776) (hg : ∀ e ∈ l, EdI e) : ∃ r, Ev (fun k => diff_Valid.f k a b l) r ∧ (r = true ↔ Scr true 0 0 a b l) := by
  obtain ⟨r, hr, hi⟩ := valid_loop a b l ha hb hl hg l.length 0 0 0 (by omega) (by omega) (by omega)
  exact ⟨r, hr, hi⟩
end Go.Proofs.Ytikepmdhnbnohaa.Pl
end
-- text YtikepmdhnbnohaaPx21
section
-- written by mp.py, a program of this session, over the kit's printer
namespace Go.Proofs.Ytikepmdhnbnohaa.P
open Go.RowKit Go.Proofs.YtikepmdhnbnohaaW.PrintWords Go.Proofs.YtikepmdhnbnohaaW.PrintLast Go.Proofs.YtikepmdhnbnohaaW.PrintMore
attribute [local go_sem] max2_int min2_int max_two min_two max_three min_three max_four min_four   -- for this text's walks alone
set_option linter.unusedVariables false
set_option linter.unusedSimpArgs false

/-! ### graftageref08_Back: function 23 -/
end Go.Proofs.Ytikepmdhnbnohaa.P
end
-- text YtikepmdhnbnohaaPx1
section
-- written by mp.py, a program of this session, over the kit's printer
namespace Go.Proofs.Ytikepmdhnbnohaa.P
open Go.RowKit Go.Proofs.YtikepmdhnbnohaaW.PrintWords Go.Proofs.YtikepmdhnbnohaaW.PrintLast Go.Proofs.YtikepmdhnbnohaaW.PrintMore
attribute [local go_sem] max2_int min2_int max_two min_two max_three min_three max_four min_four   -- for this text's walks alone
set_option linter.unusedVariables false
set_option linter.unusedSimpArgs false

theorem eqA32 (d : Nat) (w : World) (x0 y0 : Int) (x1 y1 : Int) (x2 y2 : Int) :
    (Op.equalIn (d + 2) 32 (.agg #[.int .i64 x0, .int .i64 x1, .int .i64 x2]) (.agg #[.int .i64 y0, .int .i64 y1, .int .i64 y2])).run Try.prog w = .ok (x0 == y0 && (x1 == y1 && (x2 == y2))) w := by
  refine eqA_of Try.underlying32 (by kernel_rfl) ?_
  refine eqf_cons (by rfl) (by go_simp; rfl) (by go_simp; rfl) (by go_simp) ?_
  refine eqf_cons (by rfl) (by go_simp; rfl) (by go_simp; rfl) (by go_simp) ?_
  exact eqf_last (by rfl) (by go_simp; rfl) (by go_simp; rfl) (by go_simp)
end Go.Proofs.Ytikepmdhnbnohaa.P
end
-- text YtikepmdhnbnohaaPx22
section
-- written by mp.py, a program of this session, over the kit's printer
namespace Go.Proofs.Ytikepmdhnbnohaa.P
open Go.RowKit Go.Proofs.YtikepmdhnbnohaaW.PrintWords Go.Proofs.YtikepmdhnbnohaaW.PrintLast Go.Proofs.YtikepmdhnbnohaaW.PrintMore
attribute [local go_sem] max2_int min2_int max_two min_two max_three min_three max_four min_four   -- for this text's walks alone
set_option linter.unusedVariables false
set_option linter.unusedSimpArgs false

attribute [local go_sem high] eqA32
/-! ### graftageref08_Runs: function 24 -/
end Go.Proofs.Ytikepmdhnbnohaa.P
end
-- text YtikepmdhnbnohaaPx23
section
-- written by mp.py, a program of this session, over the kit's printer
namespace Go.Proofs.Ytikepmdhnbnohaa.P
open Go.RowKit Go.Proofs.YtikepmdhnbnohaaW.PrintWords Go.Proofs.YtikepmdhnbnohaaW.PrintLast Go.Proofs.YtikepmdhnbnohaaW.PrintMore
attribute [local go_sem] max2_int min2_int max_two min_two max_three min_three max_four min_four   -- for this text's walks alone
set_option linter.unusedVariables false
set_option linter.unusedSimpArgs false

/-! ### graftageref08_Stay: function 25 -/
end Go.Proofs.Ytikepmdhnbnohaa.P
end
-- text YtikepmdhnbnohaaPx25
section
-- written by mp.py, a program of this session, over the kit's printer
namespace Go.Proofs.Ytikepmdhnbnohaa.P
open Go.RowKit Go.Proofs.YtikepmdhnbnohaaW.PrintWords Go.Proofs.YtikepmdhnbnohaaW.PrintLast Go.Proofs.YtikepmdhnbnohaaW.PrintMore
attribute [local go_sem] max2_int min2_int max_two min_two max_three min_three max_four min_four   -- for this text's walks alone
set_option linter.unusedVariables false
set_option linter.unusedSimpArgs false

/-! ### graftageref08_Of: function 27 -/
end Go.Proofs.Ytikepmdhnbnohaa.P
end
-- text YtikepmdhnbnohaaPlRuns8
section
/- What Invert, Unchanged and FromRuns answer, and their references. Conditions: lists shorter than 2^40. -/
namespace Go.Proofs.Ytikepmdhnbnohaa.Pl
open Go.RowKit Go.Proofs.YtikepmdhnbnohaaW.PrintWords Go.Proofs.Ytikepmdhnbnohaa.P
set_option linter.unusedSimpArgs false
set_option linter.unusedVariables false
abbrev Rn := S32
/-- The runs that stay. -/
def stay (n : Int) : List Ed → Int → Int → List Rn
  | [], x, y => if x < n then [⟨x, y, wrap64 (n - x)⟩] else []
  | e :: l, x, y => (if x < e.f0 then [⟨x, y, wrap64 (e.f0 - x)⟩] else []) ++ stay n l (wrap64 (e.f0 + e.f1)) (wrap64 (e.f2 + e.f3))
theorem unchanged_loop (l : List Ed) (n : Int) (hl : l.length < 1099511627776) : ∀ (d i : Nat) (out : List Rn) (x y : Int), i + d = l.length → out.length ≤ i → Ev (fun k => diff_Unchanged.l0 k n out x y l (l.length : Int) (i : Int)) (out ++ stay n (l.drop i) x y) := by
  intro d
  induction d with
  | zero =>
    intro i out x y hi ho
    refine Ev.end_ fun k => ?_
    rw [diff_Unchanged.l0, if_neg (by omega), List.drop_eq_nil_of_le (show l.length ≤ i by omega), stay]
    by_cases c : x < n
    · rw [if_pos c, if_pos (by omega), if_pos c]
    · rw [if_neg c, if_neg c, List.append_nil]
  | succ d ih =>
    intro i out x y hi ho
    have hil : i < l.length := by omega
    rw [drop_cons l i hil, stay]
    by_cases c : x < l[i].f0
    · rw [if_pos c, ← List.append_assoc]
      refine Ev.step (fun k => ?_) (ih (i + 1) (out ++ [⟨x, y, wrap64 (l[i].f0 - x)⟩]) _ _ (by omega) (by simp; omega))
      rw [diff_Unchanged.l0, if_pos (by omega), if_pos (by omega), if_pos (by omega), rdE_at l i hil, if_pos c, if_pos (by omega), w64 (n := (i : Int) + 1) (by omega) (by omega)]
      rfl
    · rw [if_neg c, List.nil_append]
      refine Ev.step (fun k => ?_) (ih (i + 1) out _ _ (by omega) (by omega))
      rw [diff_Unchanged.l0, if_pos (by omega), if_pos (by omega), if_pos (by omega), rdE_at l i hil, if_neg c, w64 (n := (i : Int) + 1) (by omega) (by omega)]
      rfl
theorem unchanged_ev (l : List Ed) (n : Int) (hl : l.length < 1099511627776) : Ev (fun k => diff_Unchanged.f k l n) (stay n l 0 0) := unchanged_loop l n hl l.length 0 [] 0 0 (by omega) (by simp)
theorem inv_cons (e : Ed) (l : List Ed) : inv (e :: l) = ⟨e.f2, e.f3, e.f0, e.f1⟩ :: inv l := rfl
theorem invert_loop (l : List Ed) (hl : l.length < 1099511627776) : ∀ (d i : Nat) (out : List Ed), i + d = l.length → out.length ≤ i → Ev (fun k => diff_Invert.l0 k out l (l.length : Int) (i : Int)) (out ++ inv (l.drop i)) := by
  intro d
  induction d with
  | zero =>
    intro i out hi ho
    refine Ev.end_ fun k => ?_
    rw [diff_Invert.l0, if_neg (by omega), List.drop_eq_nil_of_le (show l.length ≤ i by omega)]
    simp [inv]
  | succ d ih =>
    intro i out hi ho
    have hil : i < l.length := by omega
    rw [drop_cons l i hil, inv_cons, snoc_app]
    refine Ev.step (fun k => ?_) (ih (i + 1) _ (by omega) (by simp; omega))
    rw [diff_Invert.l0, if_pos (by omega), if_pos (by omega), if_pos (by omega), if_pos (by omega), rdE_at l i hil, w64 (n := (i : Int) + 1) (by omega) (by omega)]
    rfl
theorem invert_ev (l : List Ed) (hl : l.length < 1099511627776) : Ev (fun k => diff_Invert.f k l) (inv l) := invert_loop l hl l.length 0 [] (by omega) (by simp)
theorem edits_same (l : List Ed) (hl : l.length < 4611686018427387904) : Ev (fun k => graftageref08_Edits.f k l l) true := by
  have loop : ∀ (d i : Nat), i + d = l.length → Ev (fun k => graftageref08_Edits.l0 k l l (l.length : Int) (i : Int)) true := by
    intro d
    induction d with
    | zero => intro i hi; exact Ev.end_ fun k => by rw [graftageref08_Edits.l0, if_neg (by omega)]
    | succ d ih =>
      intro i hi
      refine Ev.step (fun k => ?_) (ih (i + 1) (by omega))
      rw [graftageref08_Edits.l0, if_pos (by omega), if_pos (by omega), if_pos (by omega), if_pos (by omega), if_neg (by simp), w64 (n := (i : Int) + 1) (by omega) (by omega)]
      rfl
  refine Ev.congr (fun k => ?_) (loop l.length 0 (by omega))
  unfold graftageref08_Edits.f
  rw [if_pos rfl]
  rfl
end Go.Proofs.Ytikepmdhnbnohaa.Pl
end
