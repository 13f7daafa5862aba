/- strings.Builder's copyCheck, WriteString and String: walked. Conditions: none. -/
import Derived.WalkKit
import Derived.Lib.Walk
import Derived.Lib.Builder
import Derived.Shelf.RegionOpenPlain
import Derived.Lib.UnsafeStr
import Derived.Laws.Externs
import Derived.KernelRfl
import Derived.Test.YtnodepfoahmcmaaProg
import Derived.Test.YtnodepfoahmcmaaE4
namespace Go.Proofs.Ytnodepfoahmcmaa.E
open Go Go.RowKit Go.Lib Go.Proofs
set_option linter.unusedVariables false
set_option maxHeartbeats 4000000 in
set_option maxRecDepth 100000 in
theorem bld_used (b : Nat) (w : World) (h0 : w.cell? ⟨b, 0, none⟩ = some (.pointer (some ⟨b, 0, none⟩))) :
    Calls Try.prog 54 #[.pointer (some ⟨b, 0, none⟩)] w fun e w' => e = .returned (.tuple #[]) ∧ w' = w := by
  obtain ⟨j, hj, hjs⟩ := Option.map_eq_some_iff.1 (by kernel_rfl : (Try.prog.info? 55).map (·.size) = some 2)
  have u52 := run_underlying Try.underlying52
  have u55 := run_underlying Try.underlying55
  go_enter Try.func54, Try.ntmps54
  go_wp2
  rw [Lib.run_neq_ptr_same w _ Try.underlying52 hj]
  go_wp2
  go_end0
  exact ⟨rfl, rfl⟩
set_option maxHeartbeats 4000000 in
set_option maxRecDepth 100000 in
theorem bld_fresh (b : Nat) (w : World) (h0 : w.cell? ⟨b, 0, none⟩ = some (.pointer none)) (hsh : w.shape? b = some (55, 2)) (hfz : w.frozen? ⟨b, 0, none⟩ = false) :
    Calls Try.prog 54 #[.pointer (some ⟨b, 0, none⟩)] w fun e w' => e = .returned (.tuple #[]) ∧ w' = w.setCell ⟨b, 0, none⟩ (.pointer (some ⟨b, 0, none⟩)) := by
  obtain ⟨j, hj, hjs⟩ := Option.map_eq_some_iff.1 (by kernel_rfl : (Try.prog.info? 55).map (·.size) = some 2)
  have hlies : liesAt Try.prog Try.prog.depth 55 (2 / Try.prog.cellsOf 55) 0 55 1 = true := by kernel_rfl
  have u52 := run_underlying Try.underlying52
  have u55 := run_underlying Try.underlying55
  have u91 := run_underlying Try.underlying91
  go_enter Try.func54, Try.ntmps54
  go_wp2
  rw [Lib.run_to_unsafe w ⟨b, 0, none⟩ Try.underlying52 Try.underlying91 hj (by rw [hjs]; decide) hsh (Nat.zero_lt_succ 1)]
  simp only [Result.andThen]
  rw [Oper.upon_value]
  go_wp2
  rw [run_callFunc_extern Try.func66 (by kernel_rfl) (by kernel_rfl) (by kernel_rfl) (e := Extern.AbiNoEscape.same) (by kernel_rfl)]
  rw [Lib.run_noEscape]
  simp only [Result.andThen]
  rw [Oper.upon_value]
  go_wp2
  rw [Lib.run_from_unsafe w ⟨b, 0, none⟩ Try.underlying91 Try.underlying52 hj hsh hlies]
  simp only [Result.andThen]
  rw [Oper.upon_value]
  go_wp2
  go_end0
  exact ⟨rfl, rfl⟩
theorem bld_check (m : Nat) (p v : Value) (w : World) (hb : w.heap[m]? = some (.cells #[p, v] 55 (0, 0))) (hp : p = .pointer none ∨ p = .pointer (some ⟨m, 0, none⟩)) :
    Calls Try.prog 54 #[.pointer (some ⟨m, 0, none⟩)] w fun e w' => e = .returned (.tuple #[]) ∧ w'.os = w.os ∧ w'.tape = w.tape ∧ w'.output = w.output ∧ w'.heap.size = w.heap.size ∧ w'.heap[m]? = some (.cells #[.pointer (some ⟨m, 0, none⟩), v] 55 (0, 0)) ∧ ∀ c, c ≠ m → w'.heap[c]? = w.heap[c]? := by
  have hc : w.cell? ⟨m, 0, none⟩ = some p := by simp [World.cell?, hb]
  rcases hp with rfl | rfl
  · refine (bld_fresh m w hc (by simp [World.shape?, hb]) (by simp [World.frozen?, hb])).mono ?_
    rintro e w' ⟨rfl, rfl⟩
    refine ⟨rfl, rfl, rfl, rfl, by simp [World.setCell], ?_, fun c hc => ?_⟩
    · simp [World.setCell, Array.getElem?_modify, hb]
    · simp only [World.setCell, Array.getElem?_modify]
      rw [if_neg (fun e => hc e.symm)]
  · refine (bld_used m w hc).mono ?_
    rintro e w' ⟨rfl, rfl⟩
    exact ⟨rfl, rfl, rfl, rfl, rfl, hb, fun _ _ => rfl⟩
set_option maxHeartbeats 4000000 in
set_option maxRecDepth 100000 in
theorem bld_write (m : Nat) (s : List UInt8) (x : ByteArray) (p v : Value) (w : World) (hb : w.heap[m]? = some (.cells #[p, v] 55 (0, 0))) (hp : p = .pointer none ∨ p = .pointer (some ⟨m, 0, none⟩)) (hB : Buf w (fun _ => 0) 5 s m v) (hl : s.length + x.size ≤ LIM) :
    Calls Try.prog 36 #[.pointer (some ⟨m, 0, none⟩), .string x] w fun en w' => en = .returned (.tuple #[.int .i64 x.size, .nilIface]) ∧ BStep 55 5 m w v (s ++ x.data.toList) w' := by
  obtain ⟨i0, hi, hz0, hz1, hz2⟩ : ∃ i, Try.prog.info? 5 = some i ∧ i.zero = some (.int .u8 0) ∧ i.size = 1 ∧ i.bytes = 1 := by
    have h : (Try.prog.info? 5).map (fun i => (i.zero, i.size, i.bytes)) = some (some (.int .u8 0), 1, 1) := by kernel_rfl
    obtain ⟨i, h1, h2⟩ := Option.map_eq_some_iff.1 h
    injection h2 with a b; injection b with b c
    exact ⟨i, h1, a, b, c⟩
  have u52 := run_underlying Try.underlying52
  have u55 := run_underlying Try.underlying55
  have u53 := run_underlying Try.underlying53
  have u9 := run_underlying Try.underlying9
  have e240 : ∀ args w, (callFunc 54 args).run Try.prog w = .ok (.enter 54 args) w := enters_of Try.func54 (by kernel_rfl) rfl
  have hmlt : m < w.heap.size := (Array.getElem?_eq_some_iff.1 hb).1
  go_enter Try.func36, Try.ntmps36
  go_wp2_with (go_at_fn (54); refine (bld_check m p v _ hb hp).mono ?_)
  rintro e w1 ⟨rfl, k1, k2, k3, k4, k5, k6⟩
  have c0 : w1.cell? ⟨m, 0, none⟩ = some (.pointer (some ⟨m, 0, none⟩)) := by simp [World.cell?, k5]
  have c1 : w1.cell? ⟨m, 1, none⟩ = some v := by simp [World.cell?, k5]
  have hB1 : Buf w1 (fun _ => 0) 5 s m v := by
    rcases hB with hB | ⟨g, cap, cur, q0, q1, q2, q3, q4, q5⟩
    · exact .inl hB
    · exact .inr ⟨g, cap, cur, q0, q1, q2, q3, by rw [k6 g q2]; exact q4, q5⟩
  go_wp2_with (at_builtin; refine wpList_buf rfl _ _ (53) (9) rfl 5 i0 Try.underlying53 Try.underlying9 hi hz0 hz1 hz2 s m _ rfl hB1 x rfl hl (by omega) ?_)
  intro v' w2 hB2 hown h1 h2 h3 h4 h5 h6 ao kk cc hsl
  subst hsl
  have hvm : v.ownBlock ≠ some m := fun e => (hB.own_spec e).1 rfl
  have hb2 : w2.heap[m]? = some (.cells #[.pointer (some ⟨m, 0, none⟩), v] 55 (0, 0)) := by
    rw [h5 m (by omega) hvm]; exact k5
  have d1 : w2.cell? ⟨m, 1, none⟩ = some v := by simp [World.cell?, hb2]
  have f1 : w2.frozen? ⟨m, 1, none⟩ = false := by simp [World.frozen?, hb2]
  go_wp2
  go_ret2
  have hset : ∀ c, c ≠ m → (w2.setCell ⟨m, 1, none⟩ (.slice ao kk cc)).heap[c]? = w2.heap[c]? := fun c hc => by
    simp only [World.setCell, Array.getElem?_modify]
    rw [if_neg (fun e => hc e.symm)]
  refine ⟨rfl, h1, h2, h3, by simp [World.setCell]; omega, ⟨.slice ao kk cc, ?_, ?_, fun g hg => ?_⟩, fun c hc hcm hco => ?_, fun g cur hg hc => ?_⟩
  · simp [World.setCell, Array.getElem?_modify, hb2]
  · rcases hB2 with hB2 | ⟨g, cap, cur, q0, q1, q2, q3, q4, q5⟩
    · exact .inl hB2
    · exact .inr ⟨g, cap, cur, q0, q1, q2, q3, by rw [hset g q2]; exact q4, q5⟩
  · rcases hown g hg with h | h
    · exact .inl h
    · exact .inr (by omega)
  · rw [hset c hcm, h5 c (by omega) hco, k6 c hcm]
  · have hgm : g ≠ m := (hB.own_spec hg).1
    obtain ⟨cur', r1, r2⟩ := h6 g cur hg (by rw [k6 g hgm]; exact hc)
    exact ⟨cur', by rw [hset g hgm]; exact r1, r2⟩
set_option maxHeartbeats 4000000 in
set_option maxRecDepth 100000 in
theorem bld_string (m : Nat) (s : List UInt8) (p v : Value) (w : World) (hb : w.heap[m]? = some (.cells #[p, v] 55 (0, 0))) (hB : Buf w (fun _ => 0) 5 s m v) :
    Calls Try.prog 38 #[.pointer (some ⟨m, 0, none⟩)] w fun en w' => en = .returned (.string ⟨s.toArray⟩) ∧ w'.os = w.os ∧ w'.tape = w.tape ∧ w'.output = w.output ∧ w'.heap.size = w.heap.size ∧ (∀ c, v.ownBlock ≠ some c → w'.heap[c]? = w.heap[c]?) ∧
        ∀ g cur, v.ownBlock = some g → w.heap[g]? = some (.cells cur 5 (0, 0)) → ∃ fr, w'.heap[g]? = some (.cells cur 5 fr) := by
  have u52 := run_underlying Try.underlying52
  have u55 := run_underlying Try.underlying55
  have u53 := run_underlying Try.underlying53
  have u9 := run_underlying Try.underlying9
  have u75 := run_underlying Try.underlying75
  have u3 := run_underlying Try.underlying3
  have hUS := fun (W : World) q => Lib.run_unsafeString_none (P := Try.prog) W 75 3 9 q
  have hob : ∀ a b c : Nat, (Value.slice (some ⟨a, 0, none⟩) b c).ownBlock = some a := fun _ _ _ => rfl
  have mixed : Try.prog.follows Departure.mixedOrders = true := by kernel_rfl
  rcases hB with ⟨rfl, rfl⟩ | ⟨g, cap, cur, rfl, q1, q2, q3, q4, q5, q6, q7, q8⟩
  · have c1 : w.drew.cell? ⟨m, 1, none⟩ = some (.slice none 0 0) := by
      have : w.drew.heap[m]? = some (.cells #[p, .slice none 0 0] 55 (0, 0)) := hb
      simp [World.cell?, this]
    have hSD : (Builtin.unsafeSliceData_ #[53] 75 #[.slice none 0 0]).run Try.prog w.drew = .ok (.pointer none) w.drew := rfl
    go_enter Try.func38, Try.ntmps38
    go_wp2
    go_region_o
    all_goals (go_wp2; go_ret; exact ⟨rfl, rfl, rfl, rfl, rfl, fun _ _ => rfl, fun g cur hg => by simp [Value.ownBlock] at hg⟩)
  · have c1 : w.drew.cell? ⟨m, 1, none⟩ = some (.slice (some ⟨g, 0, none⟩) s.length cap) := by
      have : w.drew.heap[m]? = some (.cells #[p, .slice (some ⟨g, 0, none⟩) s.length cap] 55 (0, 0)) := hb
      simp [World.cell?, this]
    have hSD : (Builtin.unsafeSliceData_ #[53] 75 #[.slice (some ⟨g, 0, none⟩) s.length cap]).run Try.prog w.drew = .ok (.pointer (some ⟨g, 0, none⟩)) w.drew := Lib.run_unsafeSliceData_row _ _ _ _ _ _ (by omega)
    rcases Classical.em (s = []) with e | e
    · subst e
      simp only [List.length_nil] at c1 hSD
      clear q1
      go_enter Try.func38, Try.ntmps38
      go_wp2
      go_region_o
      all_goals (go_wp2; go_ret; exact ⟨rfl, rfl, rfl, rfl, rfl, fun _ _ => rfl, fun g cur hg hc => ⟨_, hc⟩⟩)
    · have hg' : w.drew.heap[g]? = some (.cells cur 5 (0, 0)) := q4
      have hl : (Builtin.unsafeString_ #[75, 3] 9 #[.pointer (some ⟨g, 0, none⟩), .int .i64 s.length]).run Try.prog w.drew = .ok (.string ⟨s.toArray⟩) (w.drew.freeze ⟨g, 0, none⟩ s.length) := by
        refine Lib.run_unsafeString_row w.drew 75 3 9 5 Try.underlying75 (by kernel_rfl) g cur.size (by simp [World.shape?, hg']) s e (by omega) (by unfold maxLen at q6; omega) ?_
        intro j x hx
        have hadd : (⟨g, 0, none⟩ : Addr).add j = ⟨g, j, none⟩ := by unfold Addr.add; split <;> simp_all
        rw [hadd, cell_of_row w.drew g j cur 5 (0, 0) hg']
        have hj : j < s.length := (List.getElem?_eq_some_iff.1 hx).1
        have h1 : (cur.toList.take s.length)[j]? = some (.int .u8 x.toNat) := by rw [q8, List.getElem?_map, hx]; rfl
        rw [List.getElem?_take_of_lt hj, Array.getElem?_toList] at h1
        exact h1
      have hsz : s.length ≠ 0 := by simpa using e
      have fin : (w.drew.freeze ⟨g, 0, none⟩ s.length).os = w.os ∧ (w.drew.freeze ⟨g, 0, none⟩ s.length).tape = w.tape ∧ (w.drew.freeze ⟨g, 0, none⟩ s.length).output = w.output ∧ (w.drew.freeze ⟨g, 0, none⟩ s.length).heap.size = w.heap.size ∧
          (∀ c, (Value.slice (some ⟨g, 0, none⟩) s.length cap).ownBlock ≠ some c → (w.drew.freeze ⟨g, 0, none⟩ s.length).heap[c]? = w.heap[c]?) ∧
          ∀ g' cur', (Value.slice (some ⟨g, 0, none⟩) s.length cap).ownBlock = some g' → w.heap[g']? = some (.cells cur' 5 (0, 0)) → ∃ fr, (w.drew.freeze ⟨g, 0, none⟩ s.length).heap[g']? = some (.cells cur' 5 fr) := by
        unfold World.freeze
        rw [if_neg hsz]
        refine ⟨rfl, rfl, rfl, by simp, fun c hc => ?_, fun g' cur' h1 h2 => ?_⟩
        · simp only [Array.getElem?_modify]
          rw [if_neg (fun e => hc (by rw [hob, e]))]
          rfl
        · rw [hob] at h1; injection h1 with h1; subst h1
          refine ⟨(0, 0 + s.length), ?_⟩
          simp only [Array.getElem?_modify, if_true]
          rw [show w.drew.heap[g]? = some (.cells cur' 5 (0, 0)) from h2]
          rfl
      clear hUS q1
      go_enter Try.func38, Try.ntmps38
      go_wp2
      go_region_o
      all_goals (go_wp2; go_ret; exact ⟨rfl, fin⟩)
end Go.Proofs.Ytnodepfoahmcmaa.E
