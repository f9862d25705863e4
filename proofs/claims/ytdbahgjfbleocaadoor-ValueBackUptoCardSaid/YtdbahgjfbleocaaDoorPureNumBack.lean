/- Texts lead back, sums and products are turned back, a rest lies between 0 and the divisor, a root's square is not above: for all ints of int's kind. -/
import Derived.Test.YtdbahgjfbleocaaDoorNumF
import Derived.Test.YtdbahgjfbleocaaDoorNumK
import Derived.Test.YtdbahgjfbleocaaDoorPx0
import Derived.Test.YtdbahgjfbleocaaDoorPx3
namespace Go.Proofs.YtdbahgjfbleocaaDoor.Pure
open Go.RowKit Go.Proofs.YtdbahgjfbleocaaDoor.P Go.Proofs.YtdbahgjfbleocaaDoor.Nm Go.Proofs.YtdbahgjfbleocaaDoorW.PrintWords Go.Proofs.YtdbahgjfbleocaaDoorW.PrintLast
set_option linter.unusedVariables false
set_option linter.unusedSimpArgs false

/-! ### a text's bytes -/
def by8 (L : List Int) : List UInt8 := L.map fun n => UInt8.ofNat n.toNat
theorem son_bytes (L : List Int) : (strOfNums L).data.toList = by8 L := rfl
/-- are all digits? -/
def dgi (L : List Int) : Prop := ∀ x ∈ L, 48 ≤ x ∧ x ≤ 57
theorem u8n {x : Int} (h : 0 ≤ x) (k : x ≤ 255) : ((UInt8.ofNat x.toNat).toNat : Int) = x := by
  rw [UInt8.toNat_ofNat']; omega
theorem by_dgs : ∀ (L : List Int), dgi L → dgs (by8 L) = true := by
  intro L
  induction L with
  | nil => intro _; rfl
  | cons x L ih =>
    intro h
    have hx := h x (by simp)
    show (decide (48 ≤ ((UInt8.ofNat x.toNat).toNat : Int) ∧ ((UInt8.ofNat x.toNat).toNat : Int) ≤ 57) && dgs (by8 L)) = true
    rw [u8n (by omega) (by omega), decide_eq_true (by omega), ih (fun y hy => h y (by simp [hy]))]
    rfl
theorem dig_dgi : ∀ (m : Nat) (u : Int) (L : List Int), 0 ≤ u → dgi L → dgi (dig m u L) := by
  have one : ∀ (u : Int) (L : List Int), 0 ≤ u → dgi L → dgi ((48 + u % 10) :: L) := fun u L h d x hx => by
    rcases List.mem_cons.1 hx with e | e
    · omega
    · exact d x e
  intro m
  induction m with
  | zero => intro u L h d; exact one u L h d
  | succ m ih =>
    intro u L h d
    unfold dig
    split
    · exact one u L h d
    · exact ih _ _ (by omega) (one u L h d)
theorem dig_val : ∀ (m : Nat) (u : Int) (L : List Int), 0 ≤ u → u < 10 ^ (m + 1) → val (by8 (dig m u L)) 0 = val (by8 L) u := by
  have one : ∀ (u : Int) (L : List Int) (n : Int), 0 ≤ u → val (by8 ((48 + u % 10) :: L)) n = val (by8 L) (10 * n + u % 10) := fun u L n h => by
    show val (by8 L) (10 * n + (((UInt8.ofNat (48 + u % 10).toNat).toNat : Int) - 48)) = _
    rw [u8n (by omega) (by omega), show 48 + u % 10 - 48 = u % 10 by omega]
  intro m
  induction m with
  | zero =>
    intro u L h k
    show val (by8 ((48 + u % 10) :: L)) 0 = _
    rw [one u L 0 h, show 10 * 0 + u % 10 = u by omega]
  | succ m ih =>
    intro u L h k
    rw [ten_succ] at k
    unfold dig
    by_cases c : u / 10 = 0
    · rw [if_pos c, one u L 0 h, show 10 * 0 + u % 10 = u by omega]
    · rw [if_neg c, ih _ _ (by omega) (by omega), one u L _ h, show 10 * (u / 10) + u % 10 = u by omega]
theorem dig_len2 : ∀ (m j : Nat) (u : Int) (L : List Int), 0 ≤ u → u < 10 ^ (j + 1) → (dig m u L).length ≤ L.length + j + 1 := by
  intro m
  induction m with
  | zero => intro j u L h k; simp [dig]
  | succ m ih =>
    intro j u L h k
    unfold dig
    by_cases c : u / 10 = 0
    · rw [if_pos c]; simp only [List.length_cons]; omega
    · rw [if_neg c]
      cases j with
      | zero => exfalso; have : u < 10 := k; omega
      | succ j =>
        rw [ten_succ] at k
        have := ih j (u / 10) ((48 + u % 10) :: L) (by omega) (by omega)
        simp only [List.length_cons] at this
        omega
theorem idx_none : ∀ (L : List Int) (R : List UInt8), dgi L → Lib.indexByte (by8 L ++ R) 46 = if Lib.indexByte R 46 = -1 then -1 else Lib.indexByte R 46 + L.length := by
  intro L R
  induction L with
  | nil => intro _; show Lib.indexByte R 46 = if Lib.indexByte R 46 = -1 then -1 else Lib.indexByte R 46 + 0; split <;> omega
  | cons x L ih =>
    intro h
    have hx := h x (by simp)
    have i := ih (fun y hy => h y (by simp [hy]))
    show Lib.indexByte (UInt8.ofNat x.toNat :: (by8 L ++ R)) 46 = _
    rw [idx_cons, if_neg (fun e => by have := u8n (x := x) (by omega) (by omega); rw [e] at this; have e2 : ((46 : UInt8).toNat : Int) = 46 := rfl; omega), i]
    have ge := Lib.indexByte_ge R 46
    simp only [List.length_cons]
    by_cases z : Lib.indexByte R 46 = -1
    · rw [if_pos z, if_pos z, if_pos rfl]
    · rw [if_neg z, if_neg z, if_neg (by omega)]; omega

/-- the trimmed rest: noughts behind it make it the rest again -/
theorem trim_back : ∀ (n : Nat) (x y : ByteArray), x.size = n → n ≤ 100 → Ev (fun k => strings_trimRightByte.l0 k x 48) y → ∃ j : Nat, x.data.toList = y.data.toList ++ List.replicate j 48 := by
  intro n
  induction n with
  | zero =>
    intro x y hx hn t
    have := E.uniq t (E.succ (E.neg (by omega) (Ev.now x)))
    exact ⟨0, by rw [this]; simp⟩
  | succ n ih =>
    intro x y hx hn t
    have w : wrap64 ((x.size : Int) - 1) = n := by rw [E.w64 (by omega) (by omega)]; omega
    by_cases c : bt x n = 48
    · have sz' : (x.extract 0 n).size = n := by rw [ByteArray.size_extract]; omega
      obtain ⟨y', y1, _⟩ := trim_l n (x.extract 0 n) sz' (by omega)
      have t2 : Ev (fun k => strings_trimRightByte.l0 k x 48) y' := by
        refine E.succ (E.pos (by omega) ?_)
        rw [w]
        refine E.pos (by omega) (E.pos (by omega) (E.pos c (E.pos (by omega) ?_)))
        rw [show ((n : Int)).toNat = n by omega]
        exact y1
      have e := E.uniq t t2
      subst e
      obtain ⟨j, hj⟩ := ih (x.extract 0 n) y sz' (by omega) y1
      refine ⟨j + 1, ?_⟩
      have hi : n < x.size := by omega
      have e1 : x.data.toList = (x.extract 0 n).data.toList ++ x.data.toList.drop n := by
        rw [ByteArray.data_extract, Array.toList_extract]
        simp
      have e2 : x.data.toList.drop n = [48] := by
        rw [X.drop_get x n hi, List.drop_eq_nil_of_le (by rw [sz]; omega), (u8_eq (n := 48) (by omega)).1 ((bt_get hi).symm.trans c)]
        rfl
      rw [e1, e2, hj, List.append_assoc, List.replicate_succ']
    · have t2 : Ev (fun k => strings_trimRightByte.l0 k x 48) x := by
        refine E.succ (E.pos (by omega) ?_)
        rw [w]
        exact E.pos (by omega) (E.pos (by omega) (E.neg c (Ev.now _)))
      have e := E.uniq t t2
      exact ⟨0, by rw [e]; simp⟩
theorem val_rep : ∀ (j : Nat) (n : Int), val (List.replicate j 48) n = n * 10 ^ j := by
  intro j
  induction j with
  | zero => intro n; simp [val]
  | succ j ih =>
    intro n
    rw [List.replicate_succ]
    show val (List.replicate j 48) (10 * n + (((48 : UInt8).toNat : Int) - 48)) = _
    rw [ih, show ((48 : UInt8).toNat : Int) = 48 from rfl, show 10 * n + (48 - 48) = n * 10 by omega, Int.mul_assoc, ← Int.pow_succ']

theorem ext_drop (s : ByteArray) (a : Nat) : (s.extract a s.size).data.toList = s.data.toList.drop a := by
  rw [ByteArray.data_extract, Array.toList_extract]
  have : (s.data.toList.drop a).length ≤ s.size - a := by rw [List.length_drop, sz]; omega
  rw [show (List.extract s.data.toList a s.size) = (s.data.toList.drop a).take (s.size - a) from rfl, List.take_of_length_le this]
theorem ext_take (s : ByteArray) (b : Nat) : (s.extract 0 b).data.toList = s.data.toList.take b := by
  rw [ByteArray.data_extract, Array.toList_extract]
  rw [show (List.extract s.data.toList 0 b) = (s.data.toList.drop 0).take (b - 0) from rfl, List.drop_zero, Nat.sub_zero]
theorem head_bt {s : ByteArray} {c : UInt8} {l : List UInt8} (h : s.data.toList = c :: l) : 0 < s.size ∧ bt s 0 = (c.toNat : Int) := by
  have h0 : 0 < s.size := by rw [← sz, h]; simp
  have e := X.drop_get s 0 h0
  rw [List.drop_zero, h] at e
  have e1 := (List.cons.inj e).1
  refine ⟨h0, ?_⟩
  rw [e1]
  exact bt_get (i := 0) h0
theorem body_yes {s : ByteArray} {l : List UInt8} (h : s.data.toList = 45 :: l) : ng s = true ∧ (body s).data.toList = l := by
  obtain ⟨h0, hb⟩ := head_bt h
  have n : ng s = true := decide_eq_true ⟨h0, by rw [hb]; rfl⟩
  refine ⟨n, ?_⟩
  unfold body
  rw [if_pos n, ext_drop, h]
  rfl
theorem body_no {s : ByteArray} {c : UInt8} {l : List UInt8} (h : s.data.toList = c :: l) (hc : (c.toNat : Int) ≠ 45) : ng s = false ∧ body s = s := by
  obtain ⟨h0, hb⟩ := head_bt h
  have n : ng s = false := decide_eq_false (fun z => hc (hb.symm.trans z.2))
  refine ⟨n, ?_⟩
  unfold body
  rw [if_neg (by rw [n]; simp)]

/-- the number of a text of digits, a point and digits -/
theorem prs_of {s : ByteArray} {neg : Bool} {D : List Int} {T : List UInt8} {u r : Int} (hn : ng s = neg) (hb : (body s).data.toList = by8 D ++ (if T = [] then [] else 46 :: T)) (dD : dgi D) (l1 : 1 ≤ D.length) (l2 : D.length ≤ 12) (vD : val (by8 D) 0 = u)
    (dT : dgs T = true) (lT : T.length ≤ 4) (vT : val T 0 * 10 ^ (4 - T.length) = r) : prs s = sg neg (u * 10000 + r) := by
  have lD : (by8 D).length = D.length := by simp [by8]
  have hm : mid (body s) = if T = [] then -1 else (D.length : Int) := by
    unfold mid
    rw [hb, idx_none D _ dD]
    by_cases z : T = []
    · rw [if_pos z, if_pos z, if_pos (show Lib.indexByte [] 46 = -1 from rfl)]
    · rw [if_neg z, if_neg z, show Lib.indexByte (46 :: T) 46 = 0 by rw [idx_cons, if_pos rfl], if_neg (by omega)]; omega
  unfold prs
  rw [hn, hm]
  generalize body s = B at *
  by_cases z : T = []
  · subst z
    rw [if_pos rfl] at hb ⊢
    rw [List.append_nil] at hb
    rw [if_neg (by omega)]
    have sB : B.size = D.length := by rw [← sz, hb, lD]
    unfold fin
    rw [if_pos ⟨by unfold okd; rw [hb, by_dgs D dD, sB, decide_eq_true (show (1 : Int) ≤ D.length by omega), decide_eq_true (show (D.length : Int) ≤ 12 by omega)]; rfl, fun h => by cases h⟩, hb, vD]
    congr 1
    rw [← vT]
    rfl
  · rw [if_neg z] at hb ⊢
    rw [if_pos (by omega), show ((D.length : Nat) : Int).toNat = D.length by omega, show ((D.length : Int) + 1).toNat = D.length + 1 by omega]
    have eW : (B.extract 0 D.length).data.toList = by8 D := by rw [ext_take, hb, ← lD, List.take_left]
    have eR : (B.extract (D.length + 1) B.size).data.toList = T := by
      rw [ext_drop, hb, ← lD, ← List.drop_drop, List.drop_left]
      rfl
    have sW : (B.extract 0 D.length).size = D.length := by rw [← sz, eW, lD]
    have sR : (B.extract (D.length + 1) B.size).size = T.length := by rw [← sz, eR]
    have tl : 1 ≤ T.length := by cases T with | nil => exact absurd rfl z | cons _ _ => simp
    unfold fin
    rw [if_pos ⟨by unfold okd; rw [eW, by_dgs D dD, sW, decide_eq_true (show (1 : Int) ≤ D.length by omega), decide_eq_true (show (D.length : Int) ≤ 12 by omega)]; rfl, fun _ => by unfold okd; rw [eR, dT, sR, decide_eq_true (show (1 : Int) ≤ T.length by omega), decide_eq_true (show (T.length : Int) ≤ 4 by omega)]; rfl⟩, eW, eR, sR, vD, vT]

theorem back {n : Int} {s x y : ByteArray} (g : good n) (hx : x = strOfNums [48 + ab n % 10000 / 1000, 48 + ab n % 10000 / 100 % 10, 48 + ab n % 10000 / 10 % 10, 48 + ab n % 10000 % 10]) (ty : Ev (fun k => strings_trimRightByte.l0 k x 48) y)
    (hs : s = dot (strOfNums ((if n < 0 then [45] else []) ++ dig 15 (ab n / 10000) [])) y) : prs s = (n, true) := by
  have ba := ab_bd g
  have p8 : (10 : Int) ^ (7 + 1) = 100000000 := by decide
  have p16 : (10 : Int) ^ (15 + 1) = 10000000000000000 := by decide
  have dx : dgi [48 + ab n % 10000 / 1000, 48 + ab n % 10000 / 100 % 10, 48 + ab n % 10000 / 10 % 10, 48 + ab n % 10000 % 10] := fun z hz => by
    simp only [List.mem_cons, List.mem_nil_iff, or_false] at hz
    rcases hz with e | e | e | e <;> omega
  have lx : x.data.toList = by8 [48 + ab n % 10000 / 1000, 48 + ab n % 10000 / 100 % 10, 48 + ab n % 10000 / 10 % 10, 48 + ab n % 10000 % 10] := by rw [hx]; rfl
  have vx : val x.data.toList 0 = ab n % 10000 := by
    rw [lx]
    show val [] (10 * (10 * (10 * (10 * 0 + (((UInt8.ofNat (48 + ab n % 10000 / 1000).toNat).toNat : Int) - 48)) + (((UInt8.ofNat (48 + ab n % 10000 / 100 % 10).toNat).toNat : Int) - 48)) + (((UInt8.ofNat (48 + ab n % 10000 / 10 % 10).toNat).toNat : Int) - 48)) + (((UInt8.ofNat (48 + ab n % 10000 % 10).toNat).toNat : Int) - 48)) = _
    rw [u8n (by omega) (by omega), u8n (by omega) (by omega), u8n (by omega) (by omega), u8n (by omega) (by omega)]
    show 10 * (10 * (10 * (10 * 0 + _) + _) + _) + _ = _
    omega
  obtain ⟨j, hj⟩ := trim_back 4 x y (by rw [hx, son_size]; rfl) (by omega) ty
  have len : y.data.toList.length + j = 4 := by
    have := congrArg List.length hj
    rw [lx] at this
    simp [by8] at this
    simp
    omega
  have dy : dgs y.data.toList = true := by
    have := by_dgs _ dx
    rw [← lx, hj, dgs_append] at this
    cases h : dgs y.data.toList with
    | true => rfl
    | false => rw [h] at this; cases this
  have vy : val y.data.toList 0 * 10 ^ (4 - y.data.toList.length) = ab n % 10000 := by
    rw [← vx, hj, val_append, val_rep, show 4 - y.data.toList.length = j by omega]
  have dD := dig_dgi 15 (ab n / 10000) [] (by omega) (fun z hz => by cases hz)
  have lD := dig_len 15 (ab n / 10000) []
  have lD2 := dig_len2 15 7 (ab n / 10000) [] (by omega) (by rw [p8]; omega)
  have vD : val (by8 (dig 15 (ab n / 10000) [])) 0 = ab n / 10000 := dig_val 15 (ab n / 10000) [] (by omega) (by rw [p16]; omega)
  simp only [List.length_nil] at lD lD2
  have ls : s.data.toList = by8 (if n < 0 then [45] else []) ++ (by8 (dig 15 (ab n / 10000) []) ++ (if y.data.toList = [] then [] else 46 :: y.data.toList)) := by
    have b8 : by8 ((if n < 0 then [45] else []) ++ dig 15 (ab n / 10000) []) = by8 (if n < 0 then [45] else []) ++ by8 (dig 15 (ab n / 10000) []) := by simp [by8]
    rw [hs]
    unfold dot
    by_cases z : y.data.toList = []
    · have : y.size = 0 := by rw [← sz, z]; rfl
      rw [if_pos this, if_pos z, son_bytes, b8, List.append_nil]
    · have : ¬ y.size = 0 := fun e => z (List.length_eq_zero_iff.1 (by rw [sz]; exact e))
      rw [if_neg this, if_neg z, ByteArray.data_append, Array.toList_append, son_bytes, b8, ByteArray.data_append, Array.toList_append, List.append_assoc]
      rfl
  have e : prs s = sg (decide (n < 0)) (ab n / 10000 * 10000 + ab n % 10000) := by
    by_cases z : n < 0
    · rw [if_pos z] at ls
      obtain ⟨h1, h2⟩ := body_yes (s := s) ls
      rw [decide_eq_true z]
      exact prs_of h1 h2 dD (by omega) (by omega) vD dy (by omega) vy
    · rw [if_neg z] at ls
      have ls2 : s.data.toList = by8 (dig 15 (ab n / 10000) []) ++ (if y.data.toList = [] then [] else 46 :: y.data.toList) := ls
      rw [decide_eq_false z]
      cases hD : dig 15 (ab n / 10000) [] with
      | nil => rw [hD] at lD; simp at lD
      | cons d D =>
        have hd := dD d (by rw [hD]; simp)
        obtain ⟨h1, h2⟩ := body_no (s := s) (c := UInt8.ofNat d.toNat) (by rw [ls2, hD]; rfl) (by rw [u8n (by omega) (by omega)]; omega)
        exact prs_of h1 (by rw [h2]; exact ls2) dD (by omega) (by omega) vD dy (by omega) vy
  rw [e, show ab n / 10000 * 10000 + ab n % 10000 = ab n by omega]
  have gn := g
  unfold good at gn
  unfold sg
  by_cases z : n < 0
  · have : ab n = -n := if_pos z
    rw [decide_eq_true z, if_pos rfl, this, show - -n = n by omega, out_yes' g]
  · have : ab n = n := if_neg z
    rw [decide_eq_false z, this, show (if false = true then -n else n) = n from rfl, out_yes' g]

end Go.Proofs.YtdbahgjfbleocaaDoor.Pure
