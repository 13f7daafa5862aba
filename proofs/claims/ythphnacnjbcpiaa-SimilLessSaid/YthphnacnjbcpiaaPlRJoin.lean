/- The reference's Join answers all strings, one behind the other. Conditions: none. -/
import Derived.Test.YthphnacnjbcpiaaPx0
import Derived.Test.YthphnacnjbcpiaaPx7
import Derived.Test.YthphnacnjbcpiaaPlBytes
namespace Go.Proofs.Ythphnacnjbcpiaa.Pl
open Go.RowKit Go.Proofs.YthphnacnjbcpiaaW.PrintWords Go.Proofs.Ythphnacnjbcpiaa.P
theorem rjoin_loop : ∀ (r d : List ByteArray), (d ++ r).length < 4611686018427387904 → total (d ++ r) < 140737488355328 →
    Ev (fun k => graftageref05_Join.l0 k (d ++ r) (bytesOf (cat d)) ((d ++ r).length : Int) (d.length : Int)) (cat (d ++ r)) := by
  intro r
  induction r with
  | nil =>
    intro d hl ht
    refine Ev.end_ fun k => ?_
    rw [graftageref05_Join.l0, if_neg (by simp), List.append_nil, bytesOf_by, strOf_bytes, mk_by]
  | cons c r ih =>
    intro d hl ht
    have hlen := len_mid d r c
    have hc := total_cat d
    have htc : total (d ++ c :: r) = total d + (c.size + total r) := by simp [total]
    have := ih (d ++ [c]) (by simpa using hl) (by simpa using ht)
    refine Ev.step (fun k => ?_) (show Ev (fun k => graftageref05_Join.l0 k (d ++ c :: r) (bytesOf (cat (d ++ [c]))) ((d ++ c :: r).length : Int) ((d ++ [c]).length : Int)) (cat (d ++ c :: r)) by simpa using this)
    rw [graftageref05_Join.l0, if_pos (by omega), if_pos (by omega), if_pos (by omega), rdB_mid, if_pos (by rw [bytesOf_length, hc]; omega)]
    have e : bytesOf (cat (d ++ [c])) = bytesOf (cat d) ++ bytesOf c := by
      rw [bytesOf_by, bytesOf_by, bytesOf_by, ← List.map_append, cat_append, by_append]
      congr 2
      rw [by_cat]
      simp
    rw [e, len_snoc, w64 (by omega) (by omega)]
theorem rjoin_ev (l : List ByteArray) (hl : l.length < 4611686018427387904) (ht : total l < 140737488355328) : Ev (fun k => graftageref05_Join.f k l) (cat l) := rjoin_loop l [] hl ht
end Go.Proofs.Ythphnacnjbcpiaa.Pl
