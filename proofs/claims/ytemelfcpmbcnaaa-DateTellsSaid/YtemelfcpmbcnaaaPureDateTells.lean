/- All that is told of any day, and the day of any text, is the document's: for every int and every text that a call can be handed. -/
import Derived.Test.YtemelfcpmbcnaaaDateE
import Derived.Test.YtemelfcpmbcnaaaPx5
import Derived.Test.YtemelfcpmbcnaaaPx7
namespace Go.Proofs.Ytemelfcpmbcnaaa.Pure
open Go.RowKit Go.Proofs.Ytemelfcpmbcnaaa.P Go.Proofs.Ytemelfcpmbcnaaa.Dt Go.Proofs.YtemelfcpmbcnaaaW.PrintWords Go.Proofs.YtemelfcpmbcnaaaW.PrintLast
set_option linter.unusedVariables false
set_option linter.unusedSimpArgs false

theorem DateTells : octavolaw07_DateTells.Pure := by
  intro a n s w w2 _
  have b := E.wf64 w
  refine Ev.rounds (r := true) ?_
  unfold octavolaw07_DateTells.f
  have last : ∀ z : Bool × Bool, z.1 = z.2 → (z.1 == z.2) = true := fun z h => by simp [h]
  by_cases c : 1 ≤ a ∧ a ≤ 2958464
  · obtain ⟨y, m, d, hi⟩ := Is_ex c.1 c.2
    have tb := thu_bd c.1 c.2
    obtain ⟨y', m', d', hi'⟩ := Is_ex (a := thu a) (by omega) (by omega)
    have ms : ∀ e : Bool, ∃ r, Ev (fun k => date_Months.f k a n e) r ∧ Ev (fun k => octavoref07_Months.f k a n e) r := fun e => by
      by_cases h : -100000 ≤ n ∧ n ≤ 100000
      · exact ⟨_, Months_is e hi h.1 h.2, rMonths_is e hi h.1 h.2⟩
      · exact ⟨_, Months_far e hi (by omega), rMonths_far e hi (by omega)⟩
    obtain ⟨r1, u1, v1⟩ := ms false
    obtain ⟨r2, u2, v2⟩ := ms true
    refine Ev.bind (Parts_is hi) (Ev.bind (rParts_is hi) (Ev.bind u1 (Ev.bind v1 (Ev.bind u2 (Ev.bind v2 (Ev.bind (Parse_is s) (Ev.bind (rParse_is s) ?_)))))))
    refine E.pos rfl (E.pos rfl (E.pos rfl (E.pos rfl (E.pos rfl (E.pos (by simp) (E.pos rfl (E.pos (by simp) (E.pos rfl (E.pos (by simp) ?_)))))))))
    refine E.bindn (Weekday_is a) (E.bindn (rWeekday_is a) (E.pos rfl (Ev.bind (Week_is c.1 c.2 hi') (Ev.bind (rWeek_is c.1 c.2 hi') (E.pos rfl (Ev.bind (Print_is hi) (Ev.bind (rPrint_is hi) (E.pos rfl (Ev.bind lives_is (Ev.now _))))))))))
  · have c' : a < 1 ∨ 2958464 < a := by omega
    refine Ev.bind (Parts_no c') (Ev.bind (rParts_no c') (Ev.bind (Months_no false c') (Ev.bind (rMonths_no false c') (Ev.bind (Months_no true c') (Ev.bind (rMonths_no true c') (Ev.bind (Parse_is s) (Ev.bind (rParse_is s) ?_)))))))
    refine E.pos rfl (E.pos rfl (E.pos rfl (E.pos rfl (E.pos rfl (E.pos (by simp) (E.pos rfl (E.pos (by simp) (E.pos rfl (E.pos (by simp) ?_)))))))))
    refine E.bindn (Weekday_is a) (E.bindn (rWeekday_is a) (E.pos rfl (Ev.bind (Week_no c') (Ev.bind (rWeek_no c') (E.pos rfl (Ev.bind (Print_no c') (Ev.bind (rPrint_no c') (E.pos rfl (Ev.bind lives_is (Ev.now _))))))))))
end Go.Proofs.Ytemelfcpmbcnaaa.Pure
