/- What any text is typed to, in letters of other sizes, and its characters, are the document's: for every text, every int and bool. -/
import Derived.Test.YtdbahgjfbleocaaDoorVlD
import Derived.Test.YtdbahgjfbleocaaDoorPx0
import Derived.Test.YtdbahgjfbleocaaDoorPx4
import Derived.Test.YtdbahgjfbleocaaDoorPx9
namespace Go.Proofs.YtdbahgjfbleocaaDoor.Pure
open Go.RowKit Go.Proofs.YtdbahgjfbleocaaDoor.P Go.Proofs.YtdbahgjfbleocaaDoor.Nm Go.Proofs.YtdbahgjfbleocaaDoor.Vl Go.Proofs.YtdbahgjfbleocaaDoorW.PrintWords Go.Proofs.YtdbahgjfbleocaaDoorW.PrintLast
set_option linter.unusedVariables false
set_option linter.unusedSimpArgs false

theorem Bad_same (n : Int) : value_Bad.f n = octavoref06_Bad.f n := rfl
theorem Bad_some (n : Int) : ∃ r, octavoref06_Bad.f n = some r := by
  unfold octavoref06_Bad.f
  repeat' split
  all_goals exact ⟨_, rfl⟩
theorem Of_both (n : Int) (ok : Bool) : ∃ r, value_Of.f n ok = some r ∧ octavoref06_Of.f n ok = some r := by
  unfold value_Of.f octavoref06_Of.f
  rw [Good_is, rGood_is]
  simp only [Option.bind_some, Bad_same]
  obtain ⟨r, hr⟩ := Bad_some 5
  rw [hr]
  simp only [Option.bind_some]
  repeat' split
  all_goals exact ⟨_, rfl, rfl⟩
theorem Str_both (s : ByteArray) : ∃ r, value_Str.f s = some r ∧ octavoref06_Str.f s = some r := by
  unfold value_Str.f octavoref06_Str.f
  simp only [Bad_same]
  obtain ⟨r, hr⟩ := Bad_some 2
  rw [hr]
  simp only [Option.bind_some]
  repeat' split
  all_goals exact ⟨_, rfl, rfl⟩
theorem same3 (r : Int × Int × ByteArray) : (r.1 == r.1 && (r.2.1 == r.2.1 && (r.2.2.toList == r.2.2.toList))) = true := by simp
theorem ValueTypes : octavolaw06_ValueTypes.Pure := by
  intro s n ok hs wn
  refine Ev.rounds (r := true) (E.ite (fun _ => vfin) (fun c => ?_))
  have l := chs_len s s.size 0
  obtain ⟨b, hb⟩ := Bad_some n
  obtain ⟨o, ho1, ho2⟩ := Of_both n ok
  obtain ⟨t, ht1, ht2⟩ := Str_both s
  have hT := Texts_is (chars s) (by unfold chars; omega)
  exact Ev.bind (Typed_is hs) (Ev.bind (rTyped_is hs) (E.pos (same3 _) (E.bindn (Upper_is hs) (E.bindn (rUpper_is hs) (E.pos rfl (E.bindn (Lower_is hs) (E.bindn (rLower_is hs) (E.pos rfl (Ev.bind (Chars_is (by omega)) (Ev.bind (rChars_is (by omega)) (Ev.bind hT (E.pos rfl (E.bindn ht1 (E.bindn ht2 (E.pos (same3 _) (E.bindn hb (E.bindn hb (E.pos (same3 _) (E.bindn ho1 (E.bindn ho2 (E.pos (same3 _) vfin)))))))))))))))))))))
end Go.Proofs.YtdbahgjfbleocaaDoor.Pure
