/- Asking for layer 21's functions. -/
import Derived.Test.YtkkfclpodgagdaaFunY
set_option maxRecDepth 100000
set_option linter.all false
namespace Go.Proofs.Ytkkfclpodgagdaa
open Ab R
theorem ask0 (nm : ByteArray) (g : FuncId) (lo hi : Int) (args : List (List V)) (r : GV) (hf : Ret Try.prog F_lookup_find [.str nm] (.tup [.fn g [] [], .int .i64 lo, .int .i64 hi])) (hr : Ret Try.prog g [.row false args] (eV r)) (h1 : lo ≤ args.length) (h2 : args.length ≤ hi) :
    Ret Try.prog F_octavolaw21_ask [.str nm, .row false args] (eV r) := by
  have hc : Ret Try.prog F_lookup_Call [.str nm, .row false args] (.tup [eV r, .bool true]) := by
    refine r_lookup_Call rfl fun hw => ?_
    clear hw
    repeat' ((conv => whnf); (first | refine csp (fun h => ?_) (fun h => ?_) | refine cll (hf) (fun _ => ?_) | refine cll (hr) (fun _ => ?_) | refine cll (value_Bad _) (fun _ => ?_) | (refine sda ?_ ?_; (focus (first | rfl | (simp; done)))) | refine sda ?_ ?_ | refine conk rfl ?_ | refine mapk (fun x hx => ?_) | intro hl))
    all_goals conv => whnf
    all_goals try simp only [decide_eq_true_eq, decide_eq_false_iff_not, Bool.not_eq_true', Bool.not_eq_false', List.length_map, Int.not_lt, Int.not_le, Decidable.not_not, gt_iff_lt, ge_iff_le] at *
    · exfalso
      omega
    · exfalso
      omega
  refine r_octavolaw21_ask rfl fun hw => ?_
  clear hw
  repeat' ((conv => whnf); (first | refine csp (fun h => ?_) (fun h => ?_) | refine cll (hc) (fun _ => ?_) | (refine sda ?_ ?_; (focus (first | rfl | (simp; done)))) | refine sda ?_ ?_ | refine conk rfl ?_ | refine mapk (fun x hx => ?_) | intro hl))
  all_goals conv => whnf
theorem ask1 (nm : ByteArray) (g : FuncId) (lo hi : Int) (args : List (List V)) (r : GV) (hf : Ret Try.prog F_lookup_find [.str nm] (.tup [.fn g [] [.elem [.int .i64 1]], .int .i64 lo, .int .i64 hi])) (hr : Ret Try.prog g [.row false args, .elem [.int .i64 1]] (eV r)) (h1 : lo ≤ args.length) (h2 : args.length ≤ hi) :
    Ret Try.prog F_octavolaw21_ask [.str nm, .row false args] (eV r) := by
  have hc : Ret Try.prog F_lookup_Call [.str nm, .row false args] (.tup [eV r, .bool true]) := by
    refine r_lookup_Call rfl fun hw => ?_
    clear hw
    repeat' ((conv => whnf); (first | refine csp (fun h => ?_) (fun h => ?_) | refine cll (hf) (fun _ => ?_) | refine cll (hr) (fun _ => ?_) | refine cll (value_Bad _) (fun _ => ?_) | (refine sda ?_ ?_; (focus (first | rfl | (simp; done)))) | refine sda ?_ ?_ | refine conk rfl ?_ | refine mapk (fun x hx => ?_) | intro hl))
    all_goals conv => whnf
    all_goals try simp only [decide_eq_true_eq, decide_eq_false_iff_not, Bool.not_eq_true', Bool.not_eq_false', List.length_map, Int.not_lt, Int.not_le, Decidable.not_not, gt_iff_lt, ge_iff_le] at *
    · exfalso
      omega
    · exfalso
      omega
  refine r_octavolaw21_ask rfl fun hw => ?_
  clear hw
  repeat' ((conv => whnf); (first | refine csp (fun h => ?_) (fun h => ?_) | refine cll (hc) (fun _ => ?_) | (refine sda ?_ ?_; (focus (first | rfl | (simp; done)))) | refine sda ?_ ?_ | refine conk rfl ?_ | refine mapk (fun x hx => ?_) | intro hl))
  all_goals conv => whnf
theorem ask2 (nm : ByteArray) (g : FuncId) (lo hi : Int) (args : List (List V)) (r : GV) (hf : Ret Try.prog F_lookup_find [.str nm] (.tup [.fn g [] [.elem [.fn F_lookup_find_2 [] []]], .int .i64 lo, .int .i64 hi])) (hr : Ret Try.prog g [.row false args, .elem [.fn F_lookup_find_2 [] []]] (eV r)) (h1 : lo ≤ args.length) (h2 : args.length ≤ hi) :
    Ret Try.prog F_octavolaw21_ask [.str nm, .row false args] (eV r) := by
  have hc : Ret Try.prog F_lookup_Call [.str nm, .row false args] (.tup [eV r, .bool true]) := by
    refine r_lookup_Call rfl fun hw => ?_
    clear hw
    repeat' ((conv => whnf); (first | refine csp (fun h => ?_) (fun h => ?_) | refine cll (hf) (fun _ => ?_) | refine cll (hr) (fun _ => ?_) | refine cll (value_Bad _) (fun _ => ?_) | (refine sda ?_ ?_; (focus (first | rfl | (simp; done)))) | refine sda ?_ ?_ | refine conk rfl ?_ | refine mapk (fun x hx => ?_) | intro hl))
    all_goals conv => whnf
    all_goals try simp only [decide_eq_true_eq, decide_eq_false_iff_not, Bool.not_eq_true', Bool.not_eq_false', List.length_map, Int.not_lt, Int.not_le, Decidable.not_not, gt_iff_lt, ge_iff_le] at *
    · exfalso
      omega
    · exfalso
      omega
  refine r_octavolaw21_ask rfl fun hw => ?_
  clear hw
  repeat' ((conv => whnf); (first | refine csp (fun h => ?_) (fun h => ?_) | refine cll (hc) (fun _ => ?_) | (refine sda ?_ ?_; (focus (first | rfl | (simp; done)))) | refine sda ?_ ?_ | refine conk rfl ?_ | refine mapk (fun x hx => ?_) | intro hl))
  all_goals conv => whnf
def nA (n : Int) : Ar := ⟨1, 1, [⟨1, n, e0⟩], false⟩
theorem one_nA {n : Int} (h : goodN n = true) : oneS (nA n) = ⟨1, n, e0⟩ := by
  have : goodA (nA n) = true := goodA_yes ⟨by simp [nA], by simp [nA], by simp [nA], by simp [nA], rfl⟩ (by simp [nA, goodV, h])
  rw [oneS, if_pos ⟨rfl, this⟩]
  rfl
def kA : Ar := ⟨1, 3, [⟨1, 10000, e0⟩, ⟨1, 20000, e0⟩, ⟨1, 40000, e0⟩], true⟩
theorem good_kA : goodA kA = true := goodA_yes ⟨by decide, by decide, by decide, by decide, rfl⟩ (by simp [kA, goodV, goodN])
theorem kA_num : ∀ k ∈ kA.l, k.k = 1 := by simp [kA]
theorem live1 : Ret Try.prog F_octavolaw21_ask [.str ⟨#[77, 65, 84, 67, 72]⟩, .row false [cA (nA 30000), cA kA]] (eV ⟨1, 20000, e0⟩) :=
  ask0 _ _ 2 3 _ _ find_MATCH (place2 (nA 30000) kA 30000 e0 (one_nA (by decide)) good_kA (.inl rfl) kA_num) (by decide) (by decide)
theorem live2 : Ret Try.prog F_octavolaw21_ask [.str ⟨#[77, 65, 84, 67, 72]⟩, .row false [cA (nA 30000), cA kA, cA (nA 0)]] (eV ⟨4, 6, e0⟩) :=
  ask0 _ _ 2 3 _ _ find_MATCH (place3 (nA 30000) kA (nA 0) 30000 e0 (one_nA (by decide)) good_kA (.inl rfl) kA_num (by rw [one_nA (by decide)]; decide) (by rw [one_nA (by decide)]; decide)) (by decide) (by decide)
theorem live3 : Ret Try.prog F_octavolaw21_ask [.str ⟨#[73, 78, 68, 69, 88]⟩, .row false [cA kA, cA (nA 30000)]] (eV ⟨1, 40000, e0⟩) :=
  ask0 _ _ 2 3 _ _ find_INDEX (index2 kA (nA 30000) good_kA rfl (by rw [one_nA (by decide)]; decide) 3 (by rw [one_nA (by decide)]; decide)) (by decide) (by decide)
theorem live4 : Ret Try.prog F_octavolaw21_ask [.str ⟨#[67, 79, 76, 85, 77, 78, 83]⟩, .row false [cA kA]] (eV ⟨1, 30000, e0⟩) :=
  ask2 _ _ 1 1 _ _ find_COLUMNS (sized_2 kA good_kA) (by decide) (by decide)
theorem law_num (n : Int) : Ret Try.prog F_octavolaw21_number [.int .i64 n] (eA (nA n)) := law_number n
theorem lives : Ret Try.prog F_octavolaw21_lives [] (.bool true) := by
  refine r_octavolaw21_lives rfl fun hw => ?_
  clear hw
  repeat' ((conv => whnf); (first | refine csp (fun h => ?_) (fun h => ?_) | refine cll (live1) (fun _ => ?_) | refine cll (live2) (fun _ => ?_) | refine cll (live3) (fun _ => ?_) | refine cll (live4) (fun _ => ?_) | refine cll (law_num _) (fun _ => ?_) | (refine sda ?_ ?_; (focus (first | rfl | (simp; done)))) | refine sda ?_ ?_ | refine conk rfl ?_ | refine mapk (fun x hx => ?_) | intro hl))
  all_goals conv => whnf
  all_goals rfl
end Go.Proofs.Ytkkfclpodgagdaa
