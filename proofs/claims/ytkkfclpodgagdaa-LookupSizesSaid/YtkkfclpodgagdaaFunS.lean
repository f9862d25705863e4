/- LookupSizes. -/
import Derived.Test.YtkkfclpodgagdaaFunZ
import Derived.Test.YtkkfclpodgagdaaFunG
set_option maxRecDepth 100000
set_option linter.all false
namespace Go.Proofs.Ytkkfclpodgagdaa
open Ab R
theorem lookup_sized_r : Ret Try.prog F_lookup_sized [.fn F_lookup_find_1 [] []] (.fn F_lookup_sized_1 [] [.elem [.fn F_lookup_find_1 [] []]]) := by
  refine r_lookup_sized rfl fun hw => ?_
  clear hw
  repeat' ((conv => whnf); (first | refine csp (fun h => ?_) (fun h => ?_) | (refine sda ?_ ?_; (focus (first | rfl | (simp; done)))) | refine sda ?_ ?_ | refine conk rfl ?_ | refine mapk (fun x hx => ?_) | intro hl))
  all_goals conv => whnf
theorem find_ROWS : Ret Try.prog F_lookup_find [.str ⟨#[82, 79, 87, 83]⟩] (.tup [.fn F_lookup_sized_1 [] [.elem [.fn F_lookup_find_1 [] []]], .int .i64 1, .int .i64 1]) := by
  refine r_lookup_find rfl fun hw => ?_
  clear hw
  repeat' ((conv => whnf); (first | refine csp (fun h => ?_) (fun h => ?_) | refine cll (lookup_sized_r) (fun _ => ?_) | (refine sda ?_ ?_; (focus (first | rfl | (simp; done)))) | refine sda ?_ ?_ | refine conk rfl ?_ | refine mapk (fun x hx => ?_) | intro hl))
  all_goals conv => whnf
theorem find_r (g : Ar) : Ret Try.prog F_lookup_find_1 [eA g] (.int .i64 g.rows) := by
  refine r_lookup_find_1 rfl fun hw => ?_
  clear hw
  repeat' ((conv => whnf); (first | refine csp (fun h => ?_) (fun h => ?_) | (refine sda ?_ ?_; (focus (first | rfl | (simp; done)))) | refine sda ?_ ?_ | refine conk rfl ?_ | refine mapk (fun x hx => ?_) | intro hl))
  all_goals conv => whnf
theorem sized_r (g : Ar) (hg : goodA g = true) : Ret Try.prog F_lookup_sized_1 [.row false [cA g], .elem [.fn F_lookup_find_1 [] []]] (eV (ofS (IntKind.i64.wrap (g.rows * 10000)) true)) := by
  refine r_lookup_sized_1 rfl fun hw => ?_
  clear hw
  repeat' ((conv => whnf); (first | refine csp (fun h => ?_) (fun h => ?_) | refine cll (goods1 g hg) (fun _ => ?_) | refine cll (value_Bad _) (fun _ => ?_) | refine cll (find_r g) (fun _ => ?_) | refine cll (lookup_whole _) (fun _ => ?_) | (refine sda ?_ ?_; (focus (first | rfl | (simp; done)))) | refine sda ?_ ?_ | refine conk rfl ?_ | refine mapk (fun x hx => ?_) | intro hl))
  all_goals conv => whnf
theorem index3 (g w u : Ar) (hg : goodA g = true) (hw2 : ¬ (oneS w).k = 2) (hu2 : ¬ (oneS u).k = 2) (k j : Int) (hi : intsS (oneS w) = (k, 0)) (hj : intsS (oneS u) = (j, 0)) :
    Ret Try.prog F_lookup_index [.row false [cA g, cA w, cA u]] (eV (atS g k j)) := by
  have hit := lookup_ints w hw2
  have hjt := lookup_ints u hu2
  rw [hi] at hit
  rw [hj] at hjt
  refine r_lookup_index rfl fun hw => ?_
  clear hw
  repeat' ((conv => whnf); (first | refine csp (fun h => ?_) (fun h => ?_) | refine cll (goods1 g hg) (fun _ => ?_) | refine cll (hit) (fun _ => ?_) | refine cll (hjt) (fun _ => ?_) | refine cll (value_Bad _) (fun _ => ?_) | refine cll (grid_at g k j hg) (fun _ => ?_) | (refine sda ?_ ?_; (focus (first | rfl | (simp; done)))) | refine sda ?_ ?_ | refine conk rfl ?_ | refine mapk (fun x hx => ?_) | intro hl))
  all_goals conv => whnf
  all_goals try simp only [decide_eq_true_eq, decide_eq_false_iff_not, Bool.not_eq_true', Bool.not_eq_false', List.length_map, Int.not_lt, Int.not_le, Decidable.not_not, gt_iff_lt, ge_iff_le] at *
theorem ask3 (nm : ByteArray) (g : FuncId) (lo hi : Int) (args : List (List V)) (r : GV) (hf : Ret Try.prog F_lookup_find [.str nm] (.tup [.fn g [] [.elem [.fn F_lookup_find_1 [] []]], .int .i64 lo, .int .i64 hi])) (hr : Ret Try.prog g [.row false args, .elem [.fn F_lookup_find_1 [] []]] (eV r)) (h1 : lo ≤ args.length) (h2 : args.length ≤ hi) :
    Ret Try.prog F_octavolaw21_ask [.str nm, .row false args] (eV r) := by
  have hc : Ret Try.prog F_lookup_Call [.str nm, .row false args] (.tup [eV r, .bool true]) := by
    refine r_lookup_Call rfl fun hw => ?_
    clear hw
    repeat' ((conv => whnf); (first | refine csp (fun h => ?_) (fun h => ?_) | refine cll (hf) (fun _ => ?_) | refine cll (hr) (fun _ => ?_) | refine cll (value_Bad _) (fun _ => ?_) | (refine sda ?_ ?_; (focus (first | rfl | (simp; done)))) | refine sda ?_ ?_ | refine conk rfl ?_ | refine mapk (fun x hx => ?_) | intro hl))
    all_goals conv => whnf
    all_goals try simp only [decide_eq_true_eq, decide_eq_false_iff_not, Bool.not_eq_true', Bool.not_eq_false', List.length_map, Int.not_lt, Int.not_le, Decidable.not_not, gt_iff_lt, ge_iff_le] at *
    · exfalso
      omega
    · exfalso
      omega
  refine r_octavolaw21_ask rfl fun hw => ?_
  clear hw
  repeat' ((conv => whnf); (first | refine csp (fun h => ?_) (fun h => ?_) | refine cll (hc) (fun _ => ?_) | (refine sda ?_ ?_; (focus (first | rfl | (simp; done)))) | refine sda ?_ ?_ | refine conk rfl ?_ | refine mapk (fun x hx => ?_) | intro hl))
  all_goals conv => whnf
theorem ofS_yes {n : Int} (h : goodN n = true) : ofS n true = ⟨1, n, e0⟩ := by
  rw [ofS, h]
  rfl
theorem goodN_k {k : Int} (h1 : 1 ≤ k) (h2 : k ≤ 5000) : goodN (k * 10000) = true := by
  rw [goodN, decide_eq_true_eq]
  omega
theorem ints_nA {k : Int} (h1 : 1 ≤ k) (h2 : k ≤ 5000) : ¬ (oneS (nA (IntKind.i64.wrap (k * 10000)))).k = 2 ∧ intsS (oneS (nA (IntKind.i64.wrap (k * 10000)))) = (k, 0) := by
  have hg := goodN_k h1 h2
  rw [w64 (by omega), one_nA hg]
  refine ⟨by simp, ?_⟩
  have hw : wholeS (k * 10000) = (k, true) := by
    rw [wholeS, if_pos ⟨hg, Int.mul_tmod_left _ _⟩, Int.mul_tdiv_cancel _ (by decide)]
  simp [intsS, toNumS, hw]
theorem ask_rows (a : Ar) (hg : goodA a = true) : Ret Try.prog F_octavolaw21_ask [.str ⟨#[82, 79, 87, 83]⟩, .row false [cA a]] (eV ⟨1, a.rows * 10000, e0⟩) := by
  obtain ⟨⟨g1, g2, g3, g4, g5⟩, _⟩ := goodA_out hg
  have h := ask3 _ _ 1 1 _ _ find_ROWS (sized_r a hg) (Int.le_refl 1) (Int.le_refl 1)
  rwa [w64 (by omega), ofS_yes (goodN_k g1 (by omega))] at h
theorem ask_cols (a : Ar) (hg : goodA a = true) : Ret Try.prog F_octavolaw21_ask [.str ⟨#[67, 79, 76, 85, 77, 78, 83]⟩, .row false [cA a]] (eV ⟨1, a.cols * 10000, e0⟩) := by
  obtain ⟨⟨g1, g2, g3, g4, g5⟩, _⟩ := goodA_out hg
  have h := ask2 _ _ 1 1 _ _ find_COLUMNS (sized_2 a hg) (Int.le_refl 1) (Int.le_refl 1)
  rwa [w64 (by omega), ofS_yes (goodN_k g2 (by omega))] at h
theorem ask_index (a : Ar) (hg : goodA a = true) (I K : Int) (h1 : 1 ≤ I) (h2 : I ≤ 5000) (h3 : 1 ≤ K) (h4 : K ≤ 5000) : Ret Try.prog F_octavolaw21_ask [.str ⟨#[73, 78, 68, 69, 88]⟩, .row false [cA a, cA (nA (IntKind.i64.wrap (I * 10000))), cA (nA (IntKind.i64.wrap (K * 10000)))]] (eV (atS a I K)) :=
  ask0 _ _ 2 3 _ _ find_INDEX (index3 a _ _ hg (ints_nA h1 h2).1 (ints_nA h3 h4).1 I K (ints_nA h1 h2).2 (ints_nA h3 h4).2) (show (2 : Int) ≤ 3 by decide) (Int.le_refl 3)
theorem lookupSizes_ret (a : Ar) (r c : Int) (hr : IntKind.u64.wrap r = r) (hc : IntKind.u64.wrap c = c) :
    Ret Try.prog F_octavolaw21_LookupSizes [eA a, .int .u64 r, .int .u64 c] (.bool true) := by
  have hlt := law_light [a]
  by_cases hl : lightS [a] = true
  · rw [hl] at hlt
    by_cases hg : goodA a = true
    · have hgd := ref17_Good a
      rw [hg] at hgd
      refine r_octavolaw21_LookupSizes rfl fun hw => ?_
      clear hw
      obtain ⟨⟨g1, g2, g3, g4, g5⟩, _⟩ := goodA_out hg
      have hur : IntKind.u64.wrap a.rows = a.rows := (wrap_iff .u64 _).2 (by simp only [kLo, kHi]; omega)
      have huc : IntKind.u64.wrap a.cols = a.cols := (wrap_iff .u64 _).2 (by simp only [kLo, kHi]; omega)
      repeat' ((conv => whnf); (first | refine csp (fun h => ?_) (fun h => ?_) | refine cll (hlt) (fun _ => ?_) | refine cll (hgd) (fun _ => ?_) | refine cll (lives) (fun _ => ?_) | (refine sda ?_ ?_; (focus (first | rfl | (simp; done)))) | refine sda ?_ ?_ | refine conk rfl ?_ | refine mapk (fun x hx => ?_) | intro hl))
      · rw [hur] at hl
        omega
      · rw [huc] at hl
        omega
      conv => whnf
      have hi : ∃ I, IntKind.i64.wrap (1 + IntKind.i64.wrap (r.tmod (IntKind.u64.wrap a.rows))) = I ∧ 1 ≤ I ∧ I ≤ a.rows := by
        have hr0 := (wrap_iff .u64 r).1 hr
        have h0 : 0 ≤ r := hr0.1
        rw [hur, Int.tmod_eq_emod_of_nonneg h0]
        have e1 := Int.emod_nonneg r (show a.rows ≠ 0 by omega)
        have e2 := Int.emod_lt_of_pos r (show 0 < a.rows by omega)
        rw [w64 (n := r % a.rows) (by omega), w64 (by omega)]
        exact ⟨_, rfl, by omega, by omega⟩
      have hk : ∃ K, IntKind.i64.wrap (1 + IntKind.i64.wrap (c.tmod (IntKind.u64.wrap a.cols))) = K ∧ 1 ≤ K ∧ K ≤ a.cols := by
        have hr0 := (wrap_iff .u64 c).1 hc
        have h0 : 0 ≤ c := hr0.1
        rw [huc, Int.tmod_eq_emod_of_nonneg h0]
        have e1 := Int.emod_nonneg c (show a.cols ≠ 0 by omega)
        have e2 := Int.emod_lt_of_pos c (show 0 < a.cols by omega)
        rw [w64 (n := c % a.cols) (by omega), w64 (by omega)]
        exact ⟨_, rfl, by omega, by omega⟩
      obtain ⟨I, hI, hI1, hI2⟩ := hi
      obtain ⟨K, hK, hK1, hK2⟩ := hk
      rw [hI, hK]
      have hbad := ask_index a hg (a.rows + 1) 1 (by omega) (by omega) (by omega) (by omega)
      rw [show IntKind.i64.wrap ((a.rows + 1) * 10000) = IntKind.i64.wrap (IntKind.i64.wrap (a.rows * 10000) + 10000) by rw [w64 (n := a.rows * 10000) (by omega), show (a.rows + 1) * 10000 = a.rows * 10000 + 10000 by omega], show nA (IntKind.i64.wrap (1 * 10000)) = nA 10000 from rfl, show atS a (a.rows + 1) 1 = ⟨4, 3, e0⟩ by rw [atS, if_pos (by omega)]; rfl] at hbad
      have hin := at_in (r := I) (c := K) (m := a.rows) (n := a.cols) (by omega) (by omega) (by omega) (by omega) g3 g4
      have hix : IntKind.i64.wrap (IntKind.i64.wrap (IntKind.i64.wrap (IntKind.i64.wrap (I - 1) * a.cols) + K) - 1) = (I - 1) * a.cols + K - 1 := by
        rw [w64 (n := I - 1) (by omega), w64 (n := (I - 1) * a.cols) (by omega), w64 (n := (I - 1) * a.cols + K) (by omega), w64 (by omega)]
      repeat' ((conv => whnf); (first | refine csp (fun h => ?_) (fun h => ?_) | refine cll (ask_rows a hg) (fun _ => ?_) | refine cll (ask_cols a hg) (fun _ => ?_) | refine cll (law_num _) (fun _ => ?_) | refine cll (ask_index a hg I K hI1 (by omega) hK1 (by omega)) (fun _ => ?_) | refine cll (hbad) (fun _ => ?_) | refine cll (lives) (fun _ => ?_) | (refine sda ?_ ?_; (focus (first | rfl | (simp; done)))) | refine sda ?_ ?_ | refine conk rfl ?_ | refine mapk (fun x hx => ?_) | intro hl))
      all_goals conv => whnf
      all_goals try simp only [decide_eq_true_eq, decide_eq_false_iff_not, Bool.not_eq_true', Bool.not_eq_false', List.length_map, Int.not_lt, Int.not_le, Decidable.not_not, gt_iff_lt, ge_iff_le] at *
      · rw [hix]
        omega
      · rw [hix] at hx
        have hat : atS a I K = x := by rw [atS, if_neg (by omega), hx]; rfl
        rename (_ && _) = false => hne
        rw [hat] at hne
        simp at hne
      · exact absurd (w64 (n := a.cols * 10000) (by omega)).symm h
      · exact absurd (w64 (n := a.rows * 10000) (by omega)).symm h
    · have hgd := ref17_Good a
      rw [Bool.eq_false_iff.2 hg] at hgd
      refine r_octavolaw21_LookupSizes rfl fun hw => ?_
      clear hw
      repeat' ((conv => whnf); (first | refine csp (fun h => ?_) (fun h => ?_) | refine cll (hlt) (fun _ => ?_) | refine cll (hgd) (fun _ => ?_) | refine cll (lives) (fun _ => ?_) | (refine sda ?_ ?_; (focus (first | rfl | (simp; done)))) | refine sda ?_ ?_ | refine conk rfl ?_ | refine mapk (fun x hx => ?_) | intro hl))
      all_goals conv => whnf
  · rw [Bool.eq_false_iff.2 hl] at hlt
    refine r_octavolaw21_LookupSizes rfl fun hw => ?_
    clear hw
    repeat' ((conv => whnf); (first | refine csp (fun h => ?_) (fun h => ?_) | refine cll (hlt) (fun _ => ?_) | refine cll (lives) (fun _ => ?_) | (refine sda ?_ ?_; (focus (first | rfl | (simp; done)))) | refine sda ?_ ?_ | refine conk rfl ?_ | refine mapk (fun x hx => ?_) | intro hl))
    all_goals conv => whnf
end Go.Proofs.Ytkkfclpodgagdaa
