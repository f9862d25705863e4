/- Rounded down, to the nearest and up are in order, and not further apart than the place is wide: for every number of int's kind. -/
import Derived.Test.YtficjmgofbdohaaDoorNumB
import Derived.Test.YtficjmgofbdohaaDoorPx7
import Derived.Test.YtficjmgofbdohaaDoorPx9
namespace Go.Proofs.YtficjmgofbdohaaDoor.Pure
open Go.RowKit Go.Proofs.YtficjmgofbdohaaDoor.P Go.Proofs.YtficjmgofbdohaaDoor.Nm Go.Proofs.YtficjmgofbdohaaDoorW.PrintWords Go.Proofs.YtficjmgofbdohaaDoorW.PrintLast
set_option linter.unusedVariables false
set_option linter.unusedSimpArgs false

theorem fin_lives : Ev (fun n => (octavolaw05_lives.f n).bind fun t => some t) true := Ev.bind lives_is (Ev.now _)

theorem out_yes {x y : Int} (h : out x = (y, true)) : y = x ∧ good x := by
  unfold out at h
  by_cases c : good x
  · rw [if_pos c] at h; injection h with a b; exact ⟨a.symm, c⟩
  · rw [if_neg c] at h; injection h with a b; cases b

theorem rounded_j {n u low near high : Int} (u1 : 1 ≤ u) (u2 : u ≤ 1000000000000) (g : good n) (t : Int) (ok is on : Bool)
    (h1 : rndu n u 4 = (low, ok)) (h2 : rndu n u 0 = (near, is)) (h3 : rndu n u 3 = (high, on)) (ho : ok = true) (hi : is = true) :
    Ev (fun k => octavolaw05_NumRounded.j1 k n u low near high (!on)) true := by
  obtain ⟨e, r0, r1⟩ := at_rest (n := n) (show 0 < u by omega)
  subst ho; subst hi
  cases on
  · refine E.succ ?_
    simp only [octavolaw05_NumRounded.j1]
    exact E.pos (by simp) fin_lives
  · have body : low ≤ n ∧ n ≤ high ∧ (near = low ∨ near = high) ∧ (high = low ∨ high - low = u) ∧ Int.tmod low u = 0 ∧ good low ∧ good high := by
      unfold rndu at h1 h2 h3
      generalize hr : n % u = r at *
      by_cases c : r = 0
      · rw [if_pos c] at h1 h2 h3
        injection h1 with a1 b1; injection h2 with a2 b2; injection h3 with a3 b3
        subst a1; subst a2; subst a3
        refine ⟨by omega, by omega, .inl rfl, .inl rfl, ?_, g, g⟩
        exact Int.tmod_eq_zero_of_dvd ⟨n / u, by omega⟩
      · rw [if_neg c] at h1 h2 h3
        obtain ⟨a1, g1⟩ := out_yes h1
        obtain ⟨a2, g2⟩ := out_yes h2
        obtain ⟨a3, g3⟩ := out_yes h3
        have e1 : upw n u r 4 = false := by simp [upw]
        have e3 : upw n u r 3 = true := by simp [upw]
        rw [e1] at a1 g1
        rw [e3] at a3 g3
        simp only [Bool.false_eq_true, if_false, if_true] at a1 a3 g1 g3
        refine ⟨by omega, by omega, ?_, .inr (by omega), ?_, by rw [a1]; exact g1, by rw [a3]; exact g3⟩
        · by_cases z : upw n u r 0 = true
          · rw [if_pos z] at a2; exact .inr (by omega)
          · rw [if_neg z] at a2; exact .inl (by omega)
        · exact Int.tmod_eq_zero_of_dvd ⟨n / u, by omega⟩
    obtain ⟨b1, b2, b3, b4, b5, g1, g2⟩ := body
    unfold good at g1 g2
    refine E.succ ?_
    simp only [octavolaw05_NumRounded.j1]
    refine E.neg (by simp) (E.pos b1 (E.pos b2 (E.ite (fun c => E.ite (fun c2 => ?_) (fun c2 => ?_)) (fun c => E.pos (by omega) (E.ite (fun c2 => ?_) (fun c2 => ?_))))))
    · exact E.neg (by omega) (E.pos b5 fin_lives)
    · exact E.pos (by rw [E.w64 (by omega) (by omega)]; omega) (E.neg (by omega) (E.pos b5 fin_lives))
    · exact E.neg (by omega) (E.pos b5 fin_lives)
    · exact E.pos (by rw [E.w64 (by omega) (by omega)]; omega) (E.neg (by omega) (E.pos b5 fin_lives))

theorem rounded_end {n : Int} (g : good n) (t : Nat) (ht : t ≤ 12) (h4 : (4 : Int) - t ≥ -8) : Ev (fun k => octavolaw05_NumRounded.l0 k n (4 - t) ((10 ^ t : Nat) : Int) 4) true := by
  obtain ⟨u1, u2⟩ := tens t ht
  have rw_ : ∀ how, 0 ≤ how → how ≤ 4 → rnd n (4 - t) how = rndu n ((10 ^ t : Nat) : Int) how := fun how a b => by
    unfold rnd
    rw [if_pos ⟨g, by omega, by omega, a, b⟩, show (4 - (4 - (t : Int))).toNat = t by omega]
  have r4 := Round_is n (4 - t) 4 (by omega)
  have r0 := Round_is n (4 - t) 0 (by omega)
  have r3 := Round_is n (4 - t) 3 (by omega)
  rw [rw_ _ (by omega) (by omega)] at r4 r0 r3
  refine E.succ (E.neg (by omega) (Ev.bind r4 (Ev.bind r0 (Ev.bind r3 ?_))))
  have stop : ∀ x y z, Ev (fun k => octavolaw05_NumRounded.j1 k n ((10 ^ t : Nat) : Int) x y z true) true := fun x y z => by
    refine E.succ ?_
    simp only [octavolaw05_NumRounded.j1]
    exact E.pos trivial fin_lives
  refine E.ite (fun a => E.ite (fun b => ?_) (fun b => stop _ _ _)) (fun a => stop _ _ _)
  exact rounded_j u1 u2 g 0 _ _ _ rfl rfl rfl a b

theorem rounded_l {n : Int} (t : Nat) (ht : t ≤ 12) (h : Ev (fun k => octavolaw05_NumRounded.l0 k n (4 - t) ((10 ^ t : Nat) : Int) 4) true) : ∀ m j : Nat, j + m = t → Ev (fun k => octavolaw05_NumRounded.l0 k n (4 - t) ((10 ^ j : Nat) : Int) (4 - m)) true := by
  intro m
  induction m with
  | zero => intro j e; rw [show j = t by omega]; exact h
  | succ m ih =>
    intro j e
    have b := tens j (by omega)
    refine E.succ (E.pos (by omega) ?_)
    rw [← tens_succ, show (4 : Int) - ((m + 1 : Nat) : Int) + 1 = 4 - m by omega, E.w64 (x := (4 : Int) - m) (by omega) (by omega), E.w64 (by rw [tens_succ]; omega) (by rw [tens_succ]; omega)]
    exact ih (j + 1) (by omega)

theorem NumRounded : octavolaw05_NumRounded.Pure := by
  intro n d w1 w2
  have b := E.wfu64 w2
  refine Ev.rounds (r := true) (E.bindn (Good_is n) (E.ite (fun g => ?_) (fun _ => fin_lives)))
  have hm : Int.tmod d 9 = d % 9 := Int.tmod_eq_emod_of_nonneg b.1
  rw [hm, E.w64 (x := d % 9) (by omega) (by omega), E.w64 (by omega) (by omega)]
  obtain ⟨t, ht⟩ : ∃ t : Nat, d % 9 - 4 = 4 - (t : Int) := ⟨(8 - d % 9).toNat, by omega⟩
  rw [ht]
  exact rounded_l t (by omega) (rounded_end (of_decide_eq_true g) t (by omega) (by omega)) t 0 (by omega)
end Go.Proofs.YtficjmgofbdohaaDoor.Pure
