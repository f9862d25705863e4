/- What is told is read again, and what is read is told: for all references and texts. -/
import Derived.Test.YtbpckmbepgojfaaDoorAdF
import Derived.Test.YtbpckmbepgojfaaDoorPx0
import Derived.Test.YtbpckmbepgojfaaDoorPx7
namespace Go.Proofs.YtbpckmbepgojfaaDoor.Pure
open Go.RowKit Go.Proofs.YtbpckmbepgojfaaDoor.P Go.Proofs.YtbpckmbepgojfaaDoor.Nm Go.Proofs.YtbpckmbepgojfaaDoor.Ad Go.Proofs.YtbpckmbepgojfaaDoorW.PrintWords Go.Proofs.YtbpckmbepgojfaaDoorW.PrintLast
set_option linter.unusedVariables false
set_option linter.unusedSimpArgs false

theorem AddrBack : octavolaw08_AddrBack.Pure := by
  intro b sh r c x y s hb hs _ _ ht
  have j : Ev (fun k => octavolaw08_AddrBack.j0 k s) true := by
    refine E.succ ?_
    simp only [octavolaw08_AddrBack.j0]
    refine Ev.bind (ParseRef_is ht) (E.ite (fun h => ?_) (fun h => a_fin))
    obtain ⟨b', sh', r', c', x', y', e, g, z⟩ := pr_ok h
    have k := a_back (x := x') (y := y') g
    rw [e]
    dsimp only
    have gb : b'.size ≤ 140737488351232 ∧ sh'.size ≤ 140737488351232 := by
      have q := g
      unfold Ad.gd at q
      rw [Bool.and_eq_true] at q
      by_cases s0 : sh'.size = 0
      · have := q.2
        rw [if_pos s0] at this
        have := of_decide_eq_true this
        omega
      · have := q.2
        rw [if_neg s0, Bool.and_eq_true, Bool.or_eq_true] at this
        have a := gn_at this.1
        obtain h | h := this.2
        · have := of_decide_eq_true h
          omega
        · have := gn_at h
          omega
    refine Ev.bind (a_Print_is gb.1 gb.2) (Ev.bind (ParseRef_is (by omega)) ?_)
    rw [k]
    exact E.pos rfl (E.neg (by simp) (E.pos (by omega) a_fin))
  refine Ev.rounds (r := true) (Ev.bind (a_Good_is hb hs) (E.ite (fun g => ?_) (fun g => ?_)))
  · have k := a_back (x := x) (y := y) g
    have z := pri_sz (r := r) (c := c) (x := x) (y := y) hb hs
    have z2 : (pri b sh r c x y).size ≤ 140737488351232 := by
      have q := g
      unfold Ad.gd at q
      rw [Bool.and_eq_true] at q
      have i := clt_sz q.1 x y
      unfold pri ptx
      rw [if_pos g]
      by_cases s0 : sh.size = 0
      · have := q.2
        rw [if_pos s0] at this
        have := of_decide_eq_true this
        rw [if_pos s0, if_pos this]
        omega
      · have := q.2
        rw [if_neg s0, Bool.and_eq_true, Bool.or_eq_true] at this
        have a := gn_at this.1
        rw [if_neg s0]
        by_cases b0 : b.size = 0
        · rw [if_pos b0]
          simp only [ByteArray.size_append, one_sz2]
          omega
        · rw [if_neg b0]
          obtain h | h := this.2
          · exact absurd (of_decide_eq_true h) b0
          · have := gn_at h
            simp only [ByteArray.size_append, one_sz2]
            omega
    refine Ev.bind (a_Print_is hb hs) (Ev.bind (ParseRef_is z2) ?_)
    rw [k]
    exact E.pos rfl (E.neg (by simp) j)
  · refine Ev.bind (a_Print_is hb hs) (E.pos ?_ j)
    unfold pri
    rw [if_neg g]
    exact (nil_iff _).2 rfl
end Go.Proofs.YtbpckmbepgojfaaDoor.Pure
