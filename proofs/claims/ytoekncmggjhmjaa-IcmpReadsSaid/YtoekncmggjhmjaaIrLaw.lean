/- The law IcmpReads, walked: whatever is given, it answers true. -/
import Derived.Test.YtoekncmggjhmjaaIrRun
import Derived.Test.YtoekncmggjhmjaaQs
namespace Go.Proofs.Ytoekncmggjhmjaa.icmpReads
open Go.RowKit

theorem walk (tos id flags part ttl proto f0 f1 f2 f3 t0 t1 t2 t3 : Int) (opts body : List UInt8) :
    ∃ L' nx', ACall Try.prog 3 [.agg [.val (.int .i64 tos), .val (.int .i64 id), .val (.int .i64 flags), .val (.int .i64 part), .val (.int .i64 ttl), .val (.int .i64 proto), .val (.int .u8 f0), .val (.int .u8 f1), .val (.int .u8 f2), .val (.int .u8 f3), .val (.int .u8 t0), .val (.int .u8 t1), .val (.int .u8 t2), .val (.int .u8 t3), .bytes opts, .bytes body]] [] 0 (.val (.bool true)) L' nx' := by
  by_cases h1 : 1600 < body.length
  · refine ⟨_, _, (outT_ok k69_ok (icmpReads_big1 tos id flags part ttl proto f0 f1 f2 f3 t0 t1 t2 t3 opts body) ?_).1⟩
    repeat' (first | exact allNil | refine allCons ?_ ?_)
    all_goals first | omega | (simp; omega)
  by_cases h2 : 60 < opts.length
  · refine ⟨_, _, (outT_ok k69_ok (icmpReads_big2 tos id flags part ttl proto f0 f1 f2 f3 t0 t1 t2 t3 opts body) ?_).1⟩
    repeat' (first | exact allNil | refine allCons ?_ ?_)
    all_goals first | omega | (simp; omega)
  by_cases h3 : proto = 1
  case neg =>
    refine ⟨_, _, (outT_ok k69_ok (icmpReads_arg tos id flags part ttl proto f0 f1 f2 f3 t0 t1 t2 t3 opts body) ?_).1⟩
    repeat' (first | exact allNil | refine allCons ?_ ?_)
    all_goals first | exact id | omega | (simp; omega) | (simp [h3]; done)
  cases h4 : (bif part == (0 : Int) then bits BinOp.and IntKind.i64 flags (1 : Int) == (0 : Int) else false)
  · refine ⟨_, _, (outT_ok k69_ok (icmpReads_frag tos id flags part ttl proto f0 f1 f2 f3 t0 t1 t2 t3 opts body) ?_).1⟩
    repeat' (first | exact allNil | refine allCons ?_ ?_)
    all_goals first | exact id | omega | (simp; omega) | (simp [h3]; done) | (rw [h4]; rfl)
  by_cases h5 : body.length < 8
  · refine ⟨_, _, (outT_ok k69_ok (icmpReads_short tos id flags part ttl proto f0 f1 f2 f3 t0 t1 t2 t3 opts body) ?_).1⟩
    repeat' (first | exact allNil | refine allCons ?_ ?_)
    all_goals first | exact id | omega | (simp; omega) | (simp [h3]; done) | (rw [h4]; rfl)
  by_cases h6 : ofL body = 0
  case neg =>
    refine ⟨_, _, (outT_ok k69_ok (icmpReads_sum tos id flags part ttl proto f0 f1 f2 f3 t0 t1 t2 t3 opts body) ?_).1⟩
    repeat' (first | exact allNil | refine allCons ?_ ?_)
    all_goals first | exact id | trivial | omega | (simp; omega) | (simp [h3]; done) | (rw [h4]; rfl) | (simp [h6]; done)
  have e0 := at8_getD body 0
  have e1 := at8_getD body 1
  have hstr : (ByteArray.toList { data := List.toArray (List.take ((0 : Nat) + ((0 : Nat) + List.length body - (1 : Nat) - (1 : Nat) - (2 : Nat) - (4 : Nat))) (List.take ((0 : Nat) + List.length body - (1 : Nat) - (1 : Nat) - (2 : Nat) - (4 : Nat)) (List.drop (8 : Nat) body))) } == ByteArray.toList { data := List.toArray (List.take ((0 : Nat) + List.length (List.drop (8 : Nat) (List.take (List.length body) body))) (List.drop (8 : Nat) (List.take (List.length body) body))) }) = true := by
    refine str_same ?_
    rw [List.take_length, List.take_of_length_le (l := List.drop 8 body) (by rw [List.length_drop]; omega), List.take_of_length_le (by rw [List.length_drop]; omega), List.take_of_length_le (by rw [List.length_drop]; omega)]
  cases h7 : (bif bif (↑(at8 body (0 : Nat)) : Int) != (8 : Int) then (↑(at8 body (0 : Nat)) : Int) != (0 : Int) else false then true else (↑(at8 body (1 : Nat)) : Int) != (0 : Int))
  · refine ⟨_, _, ((outT_ok k69_ok (icmpReads_query tos id flags part ttl proto f0 f1 f2 f3 t0 t1 t2 t3 opts body) ?_).1).truly ?_⟩
    · repeat' (first | exact allNil | refine allCons ?_ ?_)
      all_goals first | exact id | exact hstr | trivial | omega | (simp; done) | (simp; omega) | (simp [h3]; done) | (rw [h4]; rfl) | (simp [h6]; done) | (simp [e0, e1, wrap64_u8]; done) | (simp only [wrap64_u8]; simp [e0, e1] at h7 ⊢; omega)
    · simp [e0, wrap64_u8]
  · refine ⟨_, _, ((outT_ok k69_ok (icmpReads_other tos id flags part ttl proto f0 f1 f2 f3 t0 t1 t2 t3 opts body) ?_).1).truly ?_⟩
    · repeat' (first | exact allNil | refine allCons ?_ ?_)
      all_goals first | exact id | exact hstr | trivial | omega | (simp; done) | (simp; omega) | (simp [h3]; done) | (rw [h4]; rfl) | (simp [h6]; done) | (simp [e0, e1, wrap64_u8]; done) | (simp only [wrap64_u8]; simp [e0, e1] at h7 ⊢; omega)
    · simp [e0, wrap64_u8]
end Go.Proofs.Ytoekncmggjhmjaa.icmpReads
