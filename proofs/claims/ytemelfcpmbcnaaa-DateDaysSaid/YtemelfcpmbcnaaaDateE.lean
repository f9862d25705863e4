/- Dates by arithmetic: the reference's date out of a text; the examples. -/
import Derived.Test.YtemelfcpmbcnaaaDateD
import Derived.Test.YtemelfcpmbcnaaaPx2
import Derived.Test.YtemelfcpmbcnaaaPx5
import Derived.Test.YtemelfcpmbcnaaaPx6
namespace Go.Proofs.Ytemelfcpmbcnaaa.Dt
open Go.RowKit Go.Proofs.Ytemelfcpmbcnaaa.P Go.Proofs.YtemelfcpmbcnaaaW.PrintWords Go.Proofs.YtemelfcpmbcnaaaW.PrintLast
set_option linter.unusedVariables false
set_option linter.unusedSimpArgs false

theorem lives_is : Ev (fun k => octavolaw07_lives.f k) true :=
  Ev.of (k := 200) (fun k => octavolaw07_lives.mono k) (by decide +kernel)

theorem parse_no {s : ByteArray} (h : shape s = false) : parse s = (0, false) := if_neg (by rw [h]; decide)
theorem bt_extract (s : ByteArray) (a b : Nat) (i : Int) (h : b ≤ s.size) (h0 : 0 ≤ i) (hi : a + i < b) : bt (s.extract a b) i = bt s (a + i) := by
  have h1 : i.toNat < (s.extract a b).size := by rw [ByteArray.size_extract]; omega
  have h2 : ((a : Int) + i).toNat < s.size := by omega
  unfold bt
  rw [dif_pos h1, dif_pos h2]
  congr 2
  rw [ByteArray.getElem_extract]
  congr 1
  omega
theorem n_no {s : ByteArray} {x i : Int} (h0 : 0 ≤ i) (hi : i < s.size) (h : dg s i = false) : Ev (fun k => octavoref07_number.l0 k s x i) (-1) := by
  have := of_decide_eq_false h
  refine E.succ (E.pos hi (E.pos h0 (E.ite (fun _ => Ev.now _) (fun _ => E.pos (by omega) (Ev.now _)))))
theorem n_yes {s : ByteArray} {x i r : Int} (h0 : 0 ≤ i) (hi : i < s.size) (hs : s.size ≤ 100) (hx : 0 ≤ x) (hx2 : x ≤ 1000000) (h : dg s i = true) (g : Ev (fun k => octavoref07_number.l0 k s (10 * x + num s i) (i + 1)) r) : Ev (fun k => octavoref07_number.l0 k s x i) r := by
  have := of_decide_eq_true h
  refine E.succ (E.pos hi (E.pos h0 (E.neg (by omega) (E.neg (by omega) ?_))))
  rw [show (bt s i - 48) % 256 = num s i from by unfold num; omega]
  unfold num at g ⊢
  simp (disch := omega) only [E.w64]
  exact g
theorem n_end {s : ByteArray} {x i : Int} (hi : (s.size : Int) ≤ i) : Ev (fun k => octavoref07_number.l0 k s x i) x := E.succ (E.neg (by omega) (Ev.now _))
theorem num4 {s : ByteArray} (h : s.size = 4) : Ev (fun k => octavoref07_number.f k s) (if dg s 0 && (dg s 1 && (dg s 2 && dg s 3)) then 1000 * num s 0 + 100 * num s 1 + 10 * num s 2 + num s 3 else -1) := by
  unfold octavoref07_number.f
  by_cases d0 : dg s 0 = true
  · have b0 := dg_bd d0
    refine n_yes (by omega) (by omega) (by omega) (by omega) (by omega) d0 ?_
    by_cases d1 : dg s 1 = true
    · have b1 := dg_bd d1
      refine n_yes (by omega) (by omega) (by omega) (by show 0 ≤ 10 * 0 + num s 0; omega) (by show 10 * 0 + num s 0 ≤ _; omega) d1 ?_
      by_cases d2 : dg s 2 = true
      · have b2 := dg_bd d2
        refine n_yes (by omega) (by omega) (by omega) (by show 0 ≤ 10 * (10 * 0 + num s 0) + num s 1; omega) (by show 10 * (10 * 0 + num s 0) + num s 1 ≤ _; omega) d2 ?_
        by_cases d3 : dg s 3 = true
        · have b3 := dg_bd d3
          refine n_yes (by omega) (by omega) (by omega) (by show 0 ≤ 10 * (10 * (10 * 0 + num s 0) + num s 1) + num s 2; omega) (by show 10 * (10 * (10 * 0 + num s 0) + num s 1) + num s 2 ≤ _; omega) d3 (E.is (n_end (by omega)) ?_)
          rw [d0, d1, d2, d3]
          show 10 * (10 * (10 * (10 * 0 + num s 0) + num s 1) + num s 2) + num s 3 = 1000 * num s 0 + 100 * num s 1 + 10 * num s 2 + num s 3
          omega
        · exact E.is (n_no (by omega) (by omega) (by simpa using d3)) (by simp [d3])
      · exact E.is (n_no (by omega) (by omega) (by simpa using d2)) (by simp [d2])
    · exact E.is (n_no (by omega) (by omega) (by simpa using d1)) (by simp [d1])
  · exact E.is (n_no (by omega) (by omega) (by simpa using d0)) (by simp [d0])
theorem num2 {s : ByteArray} (h : s.size = 2) : Ev (fun k => octavoref07_number.f k s) (if dg s 0 && dg s 1 then 10 * num s 0 + num s 1 else -1) := by
  unfold octavoref07_number.f
  by_cases d0 : dg s 0 = true
  · have b0 := dg_bd d0
    refine n_yes (by omega) (by omega) (by omega) (by omega) (by omega) d0 ?_
    by_cases d1 : dg s 1 = true
    · have b1 := dg_bd d1
      refine n_yes (by omega) (by omega) (by omega) (by show 0 ≤ 10 * 0 + num s 0; omega) (by show 10 * 0 + num s 0 ≤ _; omega) d1 (E.is (n_end (by omega)) ?_)
      rw [d0, d1]
      show 10 * (10 * 0 + num s 0) + num s 1 = 10 * num s 0 + num s 1
      omega
    · exact E.is (n_no (by omega) (by omega) (by simpa using d1)) (by simp [d1])
  · exact E.is (n_no (by omega) (by omega) (by simpa using d0)) (by simp [d0])
theorem v4_neg {s : ByteArray} : ((if dg s 0 && (dg s 1 && (dg s 2 && dg s 3)) then 1000 * num s 0 + 100 * num s 1 + 10 * num s 2 + num s 3 else -1 : Int) < 0) ↔ (dg s 0 && (dg s 1 && (dg s 2 && dg s 3))) = false := by
  cases e : (dg s 0 && (dg s 1 && (dg s 2 && dg s 3)))
  · simp
  · simp only [Bool.and_eq_true] at e
    have := dg_bd e.1; have := dg_bd e.2.1; have := dg_bd e.2.2.1; have := dg_bd e.2.2.2
    simp
    omega
theorem rParse_is (s : ByteArray) : Ev (fun k => octavoref07_Parse.f k s) (parse s) := by
  unfold octavoref07_Parse.f
  by_cases hs : (s.size : Int) = 10
  · refine E.pos hs (E.pos (by omega) (E.ite (fun h4 => E.pos (by omega) (E.succ ?_)) (fun h4 => E.succ ?_)))
    · simp only [octavoref07_Parse.j0]
      refine E.ite (fun h => ?_) (fun h => ?_)
      · refine E.now ?_
        have : bt s 7 ≠ 45 := by simpa using h
        simp [parse, shape, this]
      · have h7 : bt s 7 = 45 := by simpa using h
        have e : ∀ a b : Nat, b ≤ 10 → ∀ j : Int, 0 ≤ j → a + j < b → dg (s.extract a b) j = dg s (a + j) ∧ num (s.extract a b) j = num s (a + j) := fun a b hb j h0 hj => by
          have := bt_extract s a b j (by omega) h0 hj
          constructor
          · unfold dg; rw [this]
          · unfold num; rw [this]
        have q1 := num4 (s := s.extract 0 4) (by rw [ByteArray.size_extract]; omega)
        have q2 := num2 (s := s.extract 5 7) (by rw [ByteArray.size_extract]; omega)
        have q3 := num2 (s := s.extract 8 s.size) (by rw [ByteArray.size_extract]; omega)
        rw [(e 0 4 (by omega) 0 (by omega) (by omega)).1, (e 0 4 (by omega) 1 (by omega) (by omega)).1, (e 0 4 (by omega) 2 (by omega) (by omega)).1, (e 0 4 (by omega) 3 (by omega) (by omega)).1, (e 0 4 (by omega) 0 (by omega) (by omega)).2, (e 0 4 (by omega) 1 (by omega) (by omega)).2, (e 0 4 (by omega) 2 (by omega) (by omega)).2, (e 0 4 (by omega) 3 (by omega) (by omega)).2] at q1
        rw [(e 5 7 (by omega) 0 (by omega) (by omega)).1, (e 5 7 (by omega) 1 (by omega) (by omega)).1, (e 5 7 (by omega) 0 (by omega) (by omega)).2, (e 5 7 (by omega) 1 (by omega) (by omega)).2] at q2
        rw [(e 8 s.size (by omega) 0 (by omega) (by omega)).1, (e 8 s.size (by omega) 1 (by omega) (by omega)).1, (e 8 s.size (by omega) 0 (by omega) (by omega)).2, (e 8 s.size (by omega) 1 (by omega) (by omega)).2] at q3
        replace q1 : Ev (fun k => octavoref07_number.f k (s.extract 0 4)) (if dg s 0 && (dg s 1 && (dg s 2 && dg s 3)) then 1000 * num s 0 + 100 * num s 1 + 10 * num s 2 + num s 3 else -1) := q1
        replace q2 : Ev (fun k => octavoref07_number.f k (s.extract 5 7)) (if dg s 5 && dg s 6 then 10 * num s 5 + num s 6 else -1) := q2
        replace q3 : Ev (fun k => octavoref07_number.f k (s.extract 8 s.size)) (if dg s 8 && dg s 9 then 10 * num s 8 + num s 9 else -1) := q3
        refine E.pos (by omega) (E.pos (by omega) (Ev.bind q1 (E.pos (by omega) (E.pos (by omega) (Ev.bind q2 (E.pos (by omega) (Ev.bind q3 ?_)))))))
        by_cases c1 : (dg s 0 && (dg s 1 && (dg s 2 && dg s 3))) = true
        · by_cases c2 : (dg s 5 && dg s 6) = true
          · by_cases c3 : (dg s 8 && dg s 9) = true
            · rw [if_pos c1, if_pos c2, if_pos c3]
              have sh : shape s = true := by
                simp only [Bool.and_eq_true] at c1 c2 c3
                simp [shape, hs, h4, h7, c1, c2, c3]
              rw [parse, if_pos sh]
              simp only [Bool.and_eq_true] at c1 c2 c3
              have := dg_bd c1.1; have := dg_bd c1.2.1; have := dg_bd c1.2.2.1; have := dg_bd c1.2.2.2
              have := dg_bd c2.1; have := dg_bd c2.2; have := dg_bd c3.1; have := dg_bd c3.2
              exact E.neg (by omega) (E.neg (by omega) (E.neg (by omega) (Ev.bind (rDay_is _ _ _) (E.now rfl))))
            · rw [if_pos c1, if_pos c2, if_neg c3]
              have sh : shape s = false := by
                simp only [Bool.and_eq_true] at c1 c2
                rw [Bool.not_eq_true] at c3
                simp [shape, c1, c2, c3]
              rw [parse_no sh]
              simp only [Bool.and_eq_true] at c1 c2
              have := dg_bd c1.1; have := dg_bd c1.2.1; have := dg_bd c1.2.2.1; have := dg_bd c1.2.2.2
              have := dg_bd c2.1; have := dg_bd c2.2
              exact E.neg (by omega) (E.neg (by omega) (E.pos (by omega) (Ev.now _)))
          · rw [if_pos c1, if_neg c2]
            have sh : shape s = false := by
              simp only [Bool.and_eq_true] at c1
              rw [Bool.not_eq_true, Bool.and_eq_false_iff] at c2
              rcases c2 with c2 | c2 <;> simp [shape, c1, c2]
            rw [parse_no sh]
            simp only [Bool.and_eq_true] at c1
            have := dg_bd c1.1; have := dg_bd c1.2.1; have := dg_bd c1.2.2.1; have := dg_bd c1.2.2.2
            exact E.neg (by omega) (E.pos (by omega) (Ev.now _))
        · rw [if_neg c1]
          have sh : shape s = false := by
            rw [Bool.not_eq_true, Bool.and_eq_false_iff, Bool.and_eq_false_iff, Bool.and_eq_false_iff] at c1
            rcases c1 with c1 | c1 | c1 | c1 <;> simp [shape, c1]
          rw [parse_no sh]
          exact E.pos (by omega) (Ev.now _)
    · simp only [octavoref07_Parse.j0]
      exact E.pos trivial (E.now (by simp [parse, shape, h4]))
  · refine E.neg hs (E.succ ?_)
    simp only [octavoref07_Parse.j0]
    exact E.pos trivial (E.now (by simp [parse, shape, hs]))
end Go.Proofs.Ytemelfcpmbcnaaa.Dt
