/- Arguments of a law opened to the printed kinds: what the form's reading says of a value of a type, told as the kind that the printed contracts use. One lemma a kind (whole numbers, bools, strings, slices, structs), for whatever nesting. Conditions: none. -/
import Derived.ChangeArms
import Derived.SizedLaws
import Derived.DataReads
import Derived.WideShapes
import Derived.Deep.Slices
import Derived.Test.YthphnacnjbcpiaaWWords
namespace Go.Proofs.Ythphnacnjbcpiaa.Op
open Go.RowKit Go.Proofs.YthphnacnjbcpiaaW.PrintWords

/-- A value of type t reads as a datum of kind kd that is good. -/
structure Opens {α : Type} (P : Program) (t : TypeId) (kd : Kd α) (G : α → Prop) : Prop where
  size : P.cellsOf t = kd.sz
  out : ∀ {H : Type} {enc : TypeId × Value → H} {w : World} {held : Bool} {fuel : Nat} {cs : List Value} {x : DataW H × List MemPlace}, DataW.trod enc P w 0 (fun _ => true) held fuel t cs = some x →
    (∀ n ∈ x.1.weights P t, n ≤ reachBytes) → ∃ a : α, kd.K w a cs ∧ G a

theorem opens_int {P : Program} {t : TypeId} {k : IntKind} (ht : P.underlying t = some (.int k)) (hs : P.cellsOf t = 1) : Opens P t (Kd.int k) (fun x => (Lit.int k x).wf = true) where
  size := hs
  out := by
    intro H enc w held fuel cs x h _
    obtain ⟨n, rfl, _, hw⟩ := DataW.trod_int ht h
    exact ⟨n, rfl, hw⟩
theorem opens_bool {P : Program} {t : TypeId} (ht : P.underlying t = some .bool) (hs : P.cellsOf t = 1) : Opens P t Kd.bool (fun _ => True) where
  size := hs
  out := by
    intro H enc w held fuel cs x h _
    obtain ⟨n, rfl, _⟩ := DataW.trod_bool ht h
    exact ⟨n, rfl, trivial⟩
theorem opens_string {P : Program} {t : TypeId} (ht : P.underlying t = some .string) (hs : P.cellsOf t = 1) : Opens P t Kd.string (fun s => s.size ≤ 140737488351232) where
  size := hs
  out := by
    intro H enc w held fuel cs x h hw
    obtain ⟨s, rfl, rfl, _⟩ := DataW.trod_string ht h
    refine ⟨s, rfl, ?_⟩
    have z := hw s.data.toList.length (by simp [DataW.weights])
    simpa [reachBytes] using z

theorem weights_all {H : Type} {P : Program} {e : TypeId} : ∀ {l : List (DataW H)} {d : DataW H}, d ∈ l → ∀ n ∈ d.weights P e, n ∈ DataW.weightsAll P e l
  | [], _, h, _, _ => by cases h
  | x :: l, d, h, n, hn => by
    simp only [DataW.weightsAll, List.mem_append]
    rcases List.mem_cons.1 h with rfl | h
    · exact .inl hn
    · exact .inr (weights_all h n hn)

theorem opens_slice {α : Type} {P : Program} {t e : TypeId} {kd : Kd α} {G : α → Prop} (B : Nat) (ht : P.underlying t = some (.slice e)) (hs : P.cellsOf t = 1) (hB : P.bytesOf e = B) (ho : Opens P e kd G) :
    Opens P t (Kd.slice e kd) (fun l => l.length * B ≤ 140737488351232 ∧ ∀ x ∈ l, G x) where
  size := hs
  out := by
    intro H enc w held fuel cs x h hw
    rcases DataW.trod_slice ht h with ⟨rfl, rfl⟩ | ⟨a, len, cap, elems, rest, n, rfl, rfl, rfl, _, hl, hm, hlen, hel, _, _⟩
    · exact ⟨[], ⟨none, 0, rfl, Nat.le_refl _, rfl, Nat.zero_le _, fun h => absurd h (by simp)⟩, by simp, by simp⟩
    · have each : ∀ i, i < len → ∃ (z : α) (c : List Value), c.length = kd.sz ∧ kd.K w z c ∧ G z ∧ ∀ j u, c[j]? = some u → w.cell? (a.add (i * kd.sz + j)) = some u := by
        intro i hi
        have h1 := hel i hi
        have hil : i < elems.length := by omega
        rw [List.getElem?_eq_getElem hil, Option.bind_eq_some_iff] at h1
        obtain ⟨c, hc, hy⟩ := h1
        obtain ⟨z, hz, hg⟩ := ho.out hy (fun n hn => hw n (by
          simp only [DataW.weights, ht, List.mem_cons, List.mem_append]
          exact .inr (.inl (weights_all (List.mem_map.2 ⟨_, List.getElem_mem hil, rfl⟩) n hn))))
        obtain ⟨_, hcl, hcell⟩ := World.cells?_some hc
        rw [ho.size] at hcl hcell
        refine ⟨z, c, hcl, hz, hg, fun j u hu => ?_⟩
        have hj : j < c.length := (List.getElem?_eq_some_iff.1 hu).1
        have := hcell j (by omega)
        rw [← hu, ← this, Go.Deep.add_add]
      have pick : ∀ m, m ≤ len → ∃ zs : List α, zs.length = m ∧ (∀ x ∈ zs, G x) ∧ ∀ i p, zs[i]? = some p → ∃ c, c.length = kd.sz ∧ kd.K w p c ∧ ∀ j u, c[j]? = some u → w.cell? (a.add (i * kd.sz + j)) = some u := by
        intro m
        induction m with
        | zero => exact fun _ => ⟨[], rfl, by simp, by simp⟩
        | succ m ih =>
          intro hm'
          obtain ⟨zs, h1, h2, h3⟩ := ih (by omega)
          obtain ⟨z, c, hcl, hz, hg, hcell⟩ := each m (by omega)
          refine ⟨zs ++ [z], by simp [h1], fun x hx => ?_, fun i p hp => ?_⟩
          · rcases List.mem_append.1 hx with hx | hx
            · exact h2 x hx
            · rw [List.mem_singleton.1 hx]
              exact hg
          · rcases Nat.lt_or_ge i zs.length with hi | hi
            · rw [List.getElem?_append_left hi] at hp
              exact h3 i p hp
            · have hi' : i = zs.length := by
                have := (List.getElem?_eq_some_iff.1 hp).1
                simp at this
                omega
              subst hi'
              have hp' : z = p := by simpa using hp
              subst hp'
              rw [h1]
              exact ⟨c, hcl, hz, hcell⟩
      obtain ⟨zs, hzl, hG, hat⟩ := pick len (Nat.le_refl _)
      have hwt := hw ((elems.length + rest.length) * P.bytesOf e) (by simp [DataW.weights, ht])
      refine ⟨zs, ⟨some a, cap, by rw [hzl], by omega, ?_⟩, ?_, hG⟩
      · exact ⟨rfl, by rw [hzl]; exact Nat.le_trans hl (by simpa [maxLen] using hm), fun _ => ⟨a, rfl, hat⟩⟩
      · rw [hB] at hwt
        rw [hzl, ← hlen]
        exact Nat.le_trans (Nat.mul_le_mul_right _ (Nat.le_add_right _ _)) (by simpa [reachBytes] using hwt)

/-- A struct's fields from place o on. -/
structure OpensF {α : Type} (P : Program) (fs : List Field) (o : Nat) (kd : Kd α) (G : α → Prop) : Prop where
  out : ∀ {H : Type} {enc : TypeId × Value → H} {w : World} {held : Bool} {n : Nat} {cs : List Value} {xs : List (DataW H × List MemPlace)}, cs.length = o + kd.sz → xs.length = fs.length →
    (∀ (i : Nat) (f : Field), fs[i]? = some f → DataW.trod enc P w 0 (fun _ => true) held n f.type ((cs.drop f.offset).take (P.cellsOf f.type)) = xs[i]?) →
    (∀ n ∈ DataW.weightsEach P (fs.map (·.type)) (xs.map (·.1)), n ≤ reachBytes) → ∃ a : α, kd.K w a (cs.drop o) ∧ G a
theorem opensF_one {α : Type} {P : Program} {f : Field} {kd : Kd α} {G : α → Prop} {o : Nat} (hoff : f.offset = o) (ho : Opens P f.type kd G) : OpensF P [f] o kd G where
  out := by
    subst hoff
    intro H enc w held n cs xs hl hx hf hw
    match xs, hx with
    | [x], _ =>
      have h1 := hf 0 f rfl
      simp only [List.getElem?_cons_zero] at h1
      obtain ⟨a, hk, hg⟩ := ho.out h1 (fun n hn => hw n (by simp only [List.map_cons, DataW.weightsEach, List.mem_append]; exact .inl hn))
      rw [ho.size, List.take_of_length_le (by rw [List.length_drop]; omega)] at hk
      exact ⟨a, hk, hg⟩
theorem opensF_cons {α β : Type} {P : Program} {f : Field} {fs : List Field} {kd : Kd α} {kr : Kd β} {G : α → Prop} {Gr : β → Prop} {o : Nat} (hoff : f.offset = o) (ho : Opens P f.type kd G) (hr : OpensF P fs (o + kd.sz) kr Gr) :
    OpensF P (f :: fs) o (Kd.pair kd kr) (fun x => G x.1 ∧ Gr x.2) where
  out := by
    subst hoff
    intro H enc w held n cs xs hl hx hf hw
    match xs, hx with
    | x :: xs, hx =>
      have h1 := hf 0 f rfl
      simp only [List.getElem?_cons_zero] at h1
      obtain ⟨a, hk, hg⟩ := ho.out h1 (fun n hn => hw n (by simp only [List.map_cons, DataW.weightsEach, List.mem_append]; exact .inl hn))
      have hl' : cs.length = f.offset + (kd.sz + kr.sz) := hl
      obtain ⟨b, hkb, hgb⟩ := hr.out (cs := cs) (xs := xs) (by omega) (by simpa using hx) (fun i g hi => by simpa using hf (i + 1) g (by simpa using hi)) (fun n hn => hw n (by simp only [List.map_cons, DataW.weightsEach, List.mem_append]; exact .inr hn))
      refine ⟨(a, b), ⟨_, _, ?_, hk, hkb⟩, hg, hgb⟩
      rw [ho.size, ← List.drop_drop, List.take_append_drop]
theorem opens_struct {α β : Type} {P : Program} {t : TypeId} {fs : Array Field} {kd : Kd α} {G : α → Prop} (f : β → α) (hsur : ∀ a, ∃ b, f b = a) (ht : P.underlying t = some (.struct fs)) (hs : P.cellsOf t = kd.sz) (ho : OpensF P fs.toList 0 kd G) :
    Opens P t (Kd.iso kd f) (fun x => G (f x)) where
  size := hs
  out := by
    intro H enc w held fuel cs x h hw
    obtain ⟨xs, n, rfl, rfl, hl, hx, hf⟩ := DataW.trod_struct ht h
    obtain ⟨a, hk, hg⟩ := ho.out (by rw [hl, hs]; omega) (by simpa using hx) (fun i f hi => hf i f (by simpa using hi)) (fun n hn => hw n (by simp only [DataW.weights, ht]; exact hn))
    obtain ⟨b, rfl⟩ := hsur a
    rw [List.drop_zero] at hk
    exact ⟨b, hk, hg⟩
theorem Opens.weaken {α : Type} {P : Program} {t : TypeId} {kd : Kd α} {G G' : α → Prop} (h : Opens P t kd G) (hg : ∀ x, G x → G' x) : Opens P t kd G' where
  size := h.size
  out := fun h1 h2 => by
    obtain ⟨a, hk, hG⟩ := h.out h1 h2
    exact ⟨a, hk, hg a hG⟩
/-- A slice argument. -/
theorem slice_arg {α : Type} {e : TypeId} {kd : Kd α} {w : World} {a : Option Addr} {len cap : Nat} {xs : List α} (h : (Kd.slice e kd).K w xs (Value.slice a len cap).cells.toList) : len = xs.length ∧ xs.length ≤ cap ∧ kd.C w a xs.length xs := by
  obtain ⟨A, c, h1, h2, h3⟩ := h
  have h0 : [Value.slice a len cap] = [.slice A xs.length c] := h1
  injection h0 with h0
  injection h0 with ha hb hc
  subst ha hb hc
  exact ⟨rfl, h2, h3⟩
/-- A struct argument's cells. -/
theorem agg_arg {cs : Array Value} {l : List Value} (h : (Value.agg cs).cells.toList = l) : Value.agg cs = .agg l.toArray := by
  have h0 : cs.toList = l := h
  rw [← h0]
end Go.Proofs.Ythphnacnjbcpiaa.Op
