/- A day's date leads back to it, its text, too; the day behind it is the next one of the calendar; weeks go round: for every number of uint's kind. -/
import Derived.Test.YtemelfcpmbcnaaaDateE
import Derived.Test.YtemelfcpmbcnaaaPx2
import Derived.Test.YtemelfcpmbcnaaaPx3
namespace Go.Proofs.Ytemelfcpmbcnaaa.Pure
open Go.RowKit Go.Proofs.Ytemelfcpmbcnaaa.P Go.Proofs.Ytemelfcpmbcnaaa.Dt Go.Proofs.YtemelfcpmbcnaaaW.PrintWords Go.Proofs.YtemelfcpmbcnaaaW.PrintLast
set_option linter.unusedVariables false
set_option linter.unusedSimpArgs false

theorem bt_son (l : List Int) (j : Nat) (v : Int) (h : l[j]? = some v) (h0 : 0 ≤ v) (h1 : v ≤ 255) : bt (strOfNums l) (j : Int) = v := by
  have hl : j < l.length := by
    rcases Nat.lt_or_ge j l.length with q | q
    · exact q
    · rw [List.getElem?_eq_none q] at h; cases h
  have hj : (j : Int).toNat < (strOfNums l).size := by rw [son_size]; simpa using hl
  unfold bt
  rw [dif_pos hj]
  have e : l[j] = v := by rw [List.getElem?_eq_getElem hl] at h; exact Option.some.inj h
  have : (strOfNums l)[(j : Int).toNat]'hj = UInt8.ofNat (l[j]).toNat := by
    show (strOfNums l).data[(j : Int).toNat]'hj = _
    simp [strOfNums]
  rw [this, e]
  simp
  omega
theorem parse_fmt {a y m d : Int} (h : Is a y m d) : parse (strOfNums (fmt y m d)) = (a, true) := by
  have g := h
  obtain ⟨g1, g2, g3, g4, g5, g6, g7⟩ := g
  have lb := last_bd y m g3 g4
  have b0 := bt_son (fmt y m d) 0 _ rfl (by omega) (by omega)
  have b1 := bt_son (fmt y m d) 1 _ rfl (by omega) (by omega)
  have b2 := bt_son (fmt y m d) 2 _ rfl (by omega) (by omega)
  have b3 := bt_son (fmt y m d) 3 _ rfl (by omega) (by omega)
  have b4 := bt_son (fmt y m d) 4 _ rfl (by omega) (by omega)
  have b5 := bt_son (fmt y m d) 5 _ rfl (by omega) (by omega)
  have b6 := bt_son (fmt y m d) 6 _ rfl (by omega) (by omega)
  have b7 := bt_son (fmt y m d) 7 _ rfl (by omega) (by omega)
  have b8 := bt_son (fmt y m d) 8 _ rfl (by omega) (by omega)
  have b9 := bt_son (fmt y m d) 9 _ rfl (by omega) (by omega)
  have hs : ((strOfNums (fmt y m d)).size : Int) = 10 := by rw [son_size]; rfl
  generalize strOfNums (fmt y m d) = s at *
  have dgs : ∀ i v : Int, bt s i = v → 48 ≤ v → v ≤ 57 → dg s i = true := fun i v e h1 h2 => decide_eq_true (by omega)
  have sh : Dt.shape s = true := by
    simp only [Dt.shape, dgs 0 _ b0 (by omega) (by omega), dgs 1 _ b1 (by omega) (by omega), dgs 2 _ b2 (by omega) (by omega), dgs 3 _ b3 (by omega) (by omega), dgs 5 _ b5 (by omega) (by omega), dgs 6 _ b6 (by omega) (by omega), dgs 8 _ b8 (by omega) (by omega), dgs 9 _ b9 (by omega) (by omega), hs, show bt s 4 = 45 from b4, show bt s 7 = 45 from b7]
    rfl
  rw [parse, if_pos sh]
  have e1 : 1000 * num s 0 + 100 * num s 1 + 10 * num s 2 + num s 3 = y := by
    unfold num
    rw [show bt s 0 = _ from b0, show bt s 1 = _ from b1, show bt s 2 = _ from b2, show bt s 3 = _ from b3]
    omega
  have e2 : 10 * num s 5 + num s 6 = m := by
    unfold num
    rw [show bt s 5 = _ from b5, show bt s 6 = _ from b6]
    omega
  have e3 : 10 * num s 8 + num s 9 = d := by
    unfold num
    rw [show bt s 8 = _ from b8, show bt s 9 = _ from b9]
    omega
  rw [e1, e2, e3, day_yes g1 g2 g5 g6, g7]

theorem DateBack : octavolaw07_DateBack.Pure := by
  intro n w
  have b := E.wfu64 w
  refine Ev.rounds (r := true) ?_
  unfold octavolaw07_DateBack.f
  rw [(tm n 2958463 (by omega)).1 b.1]
  have hm : 0 ≤ n % 2958463 ∧ n % 2958463 < 2958463 := by omega
  generalize n % 2958463 = x at hm
  rw [E.w64 (x := x) (by omega) (by omega), E.w64 (x := 1 + x) (by omega) (by omega)]
  generalize hA : 1 + x = a
  have ha : 1 ≤ a ∧ a ≤ 2958463 := by omega
  clear hA
  obtain ⟨y, m, d, hi⟩ := Is_ex (a := a) (by omega) (by omega)
  have g := hi
  obtain ⟨g1, g2, g3, g4, g5, g6, g7⟩ := g
  have lb := last_bd y m g3 g4
  have hp := Parse_is (strOfNums (fmt y m d))
  rw [parse_fmt hi] at hp
  have hd := Day_is y m d
  rw [day_yes g1 g2 g5 g6, g7] at hd
  have fin : Ev (fun n => (octavolaw07_lives.f n).bind fun t => some t) true := Ev.bind lives_is (Ev.now _)
  refine Ev.bind (Parts_is hi) (Ev.bind hd (Ev.bind (Print_is hi) (Ev.bind hp (E.pos rfl (E.pos rfl (E.pos rfl (E.pos rfl (E.pos rfl (E.neg (by show ¬ d < 1; omega) (Ev.bind (Last_is y m) (E.succ ?_)))))))))))
  simp only [octavolaw07_DateBack.j0]
  refine E.neg (by simp; omega) ?_
  rw [E.w64 (x := a + 1) (by omega) (by omega)]
  have wd : Ev (fun k => (date_Weekday.f (a + 1)).bind fun t149 => ((date_Weekday.f a).bind fun t150 => (if t149 = (wrap64 ((Int.tmod t150 7) + 1)) then ((octavolaw07_lives.f k).bind fun t151 => (some t151)) else (some false)))) true := by
    refine E.bindn (Weekday_is (a + 1)) (E.bindn (Weekday_is a) (E.pos ?_ fin))
    rw [if_pos (by omega), if_pos (by omega), (tm _ 7 (by omega)).1 (by omega), E.w64 (by omega) (by omega)]
    omega
  have w1 : wrap64 (a + 1) = a + 1 := E.w64 (by omega) (by omega)
  by_cases c1 : d < last y m
  · have hn : Is (a + 1) y m (d + 1) := ⟨g1, g2, g3, g4, by omega, by omega, by rw [← g7]; unfold dn; omega⟩
    refine Ev.bind (Parts_is hn) (E.pos rfl (Ev.bind (Last_is y m) (E.pos c1 (E.pos rfl (E.pos rfl (E.succ ?_))))))
    simp only [octavolaw07_DateBack.j1]
    rw [w1]
    exact E.neg (by rw [E.w64 (x := d + 1) (by omega) (by omega)]; simp) wd
  · have ed : d = last y m := by omega
    by_cases c2 : m < 12
    · have cn := cm_next (leap y) g3 g4
      have hn : Is (a + 1) y (m + 1) 1 := ⟨g1, g2, by omega, by omega, by omega, by have := last_bd y (m + 1) (by omega) (by omega); omega, by rw [last_in g3 g4] at ed; rw [← g7]; unfold dn; omega⟩
      refine Ev.bind (Parts_is hn) (E.pos rfl (Ev.bind (Last_is y m) (E.neg c1 (E.pos c2 (E.pos rfl (E.pos ?_ (E.succ ?_)))))))
      · rw [E.w64 (x := m + 1) (by omega) (by omega)]
      · simp only [octavolaw07_DateBack.j2]
        rw [w1]
        exact E.neg (by simp) wd
    · have em : m = 12 := by omega
      subst em
      have l12 : last y 12 = 31 := rfl
      have nx := ah_next y
      have ci : cm (leap y) 12 = 334 + (if leap y then 1 else 0) := by unfold cm; cases leap y <;> simp
      have ci1 : cm (leap (y + 1)) 1 = 0 := by unfold cm; cases leap (y + 1) <;> simp
      have g7' := g7
      unfold dn at g7'
      have y1 : y + 1 ≤ 9999 := by
        by_cases e : y = 9999
        · subst e
          have : ah 9999 + cm (leap 9999) 12 = 2958433 := by decide
          omega
        · omega
      have hn : Is (a + 1) (y + 1) 1 1 := ⟨by omega, y1, by omega, by omega, by omega, by show (1 : Int) ≤ 31; omega, by unfold dn; omega⟩
      refine Ev.bind (Parts_is hn) (E.pos rfl (Ev.bind (Last_is y 12) (E.neg c1 (E.neg c2 (E.pos ?_ (E.pos rfl (E.succ ?_)))))))
      · rw [E.w64 (x := y + 1) (by omega) (by omega)]
      · simp only [octavolaw07_DateBack.j3]
        rw [w1]
        exact E.neg (by simp) wd
end Go.Proofs.Ytemelfcpmbcnaaa.Pure
