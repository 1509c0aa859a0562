/- Chapter 2, plainly: an element, an object, a number, a method's name. -/
import Derived.Test.YtlajkmnmooilmaaDoorPure2a
import Derived.Test.YtlajkmnmooilmaaDoorP3
import Derived.Test.YtlajkmnmooilmaaDoorP5
import Derived.Test.YtlajkmnmooilmaaDoorP6
namespace Go.Proofs.YtlajkmnmooilmaaDoor.Pure
open Go.RowKit Go.Proofs.YtlajkmnmooilmaaDoor.P Go.Proofs.YtlajkmnmooilmaaDoorW.PrintWords
theorem dmethod_f (s : ByteArray) (hs : s.size ≤ 140737488355328) : Ev (fun k => desc_Method.f k s) (mth s) := by
  unfold desc_Method.f mth
  by_cases h : isInit s
  · rw [if_pos h]; exact Ev_pos h (Ev.now _)
  · rw [if_neg h]; exact Ev_neg h (Ev.bind (dname_f s hs) (Ev.now _))
theorem rmethod_f (s : ByteArray) (hs : s.size ≤ 140737488355328) : Ev (fun k => keystoneref2_Method.f k s) (mth s) := by
  unfold keystoneref2_Method.f mth
  by_cases h : isInit s
  · rw [if_pos h]; exact Ev_pos h (Ev.now _)
  · rw [if_neg h]; exact Ev_neg h (Ev.bind (rname_f s hs) (Ev.now _))
def elS (d : Int) (s : ByteArray) : Int × ByteArray × Bool := if chk d s = 0 then (if d = 0 then (0, ⟨#[]⟩, false) else (wrap64 (d - 1), s, true)) else (0, ⟨#[]⟩, false)
theorem del_f (d : Int) (s : ByteArray) (hs : s.size ≤ 140737488355328) : Ev (fun k => desc_Element.f k d s) (elS d s) := by
  unfold desc_Element.f elS
  refine Ev.bind (dcheck_f d s hs) ?_
  by_cases h : chk d s = 0
  · refine Ev_pos h ?_
    rw [if_pos h]
    by_cases h0 : d = 0
    · exact Ev_pos h0 (by rw [if_pos h0]; exact Ev.now _)
    · exact Ev_neg h0 (by rw [if_neg h0]; exact Ev.now _)
  · exact Ev_neg h (by rw [if_neg h]; exact Ev.now _)
theorem rel_f (d : Int) (s : ByteArray) (hs : s.size ≤ 140737488355328) : Ev (fun k => keystoneref2_Element.f k d s) (elS d s) := by
  unfold keystoneref2_Element.f elS
  refine Ev.bind (rcheck_f d s hs) ?_
  by_cases h : chk d s = 0
  · refine Ev_pos h ?_
    rw [if_pos h]
    by_cases h0 : d = 0
    · exact Ev_pos h0 (by rw [if_pos h0]; exact Ev.now _)
    · exact Ev_neg h0 (by rw [if_neg h0]; exact Ev.now _)
  · exact Ev_neg h (by rw [if_neg h]; exact Ev.now _)
def numS (d : Int) (s : ByteArray) : Bool := d == 0 && (s.toList == ([] : List UInt8))
theorem dnum_f (d : Int) (s : ByteArray) : desc_Number.f d s = some (numS d s) := rfl
theorem rnum_f (d : Int) (s : ByteArray) : keystoneref2_Number.f d s = some (numS d s) := by
  unfold keystoneref2_Number.f numS
  by_cases h : d = 0
  · rw [if_pos h]; simp [h]
  · rw [if_neg h]; simp [h]
def objS (d : Int) (s : ByteArray) : Bool := if chk d s = 0 then !numS d s else false
theorem dobj_f (d : Int) (s : ByteArray) (hs : s.size ≤ 140737488355328) : Ev (fun k => desc_Object.f k d s) (objS d s) := by
  unfold desc_Object.f objS
  refine Ev.bind (dcheck_f d s hs) ?_
  by_cases h : chk d s = 0
  · exact Ev_pos h (Ev_bindc (dnum_f d s) (by rw [if_pos h]; exact Ev.now _))
  · exact Ev_neg h (by rw [if_neg h]; exact Ev.now _)
theorem robj_f (d : Int) (s : ByteArray) (hs : s.size ≤ 140737488355328) : Ev (fun k => keystoneref2_Object.f k d s) (objS d s) := by
  unfold keystoneref2_Object.f objS
  refine Ev.bind (rcheck_f d s hs) ?_
  by_cases h : chk d s = 0
  · exact Ev_pos h (Ev_bindc (rnum_f d s) (by rw [if_pos h]; exact Ev.now _))
  · exact Ev_neg h (by rw [if_neg h]; exact Ev.now _)
end Go.Proofs.YtlajkmnmooilmaaDoor.Pure
