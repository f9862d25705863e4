/- A reference told and read again. -/
import Derived.Test.YtbpckmbepgojfaaDoorAdD
import Derived.Test.YtbpckmbepgojfaaDoorAdE
import Derived.Test.YtbpckmbepgojfaaDoorAdT
import Derived.Test.YtbpckmbepgojfaaDoorPx0
namespace Go.Proofs.YtbpckmbepgojfaaDoor.Ad
open Go.RowKit Go.Proofs.YtbpckmbepgojfaaDoor.P Go.Proofs.YtbpckmbepgojfaaDoor.Nm Go.Proofs.YtbpckmbepgojfaaDoorW.PrintWords Go.Proofs.YtbpckmbepgojfaaDoorW.PrintLast
set_option linter.unusedVariables false
set_option linter.unusedSimpArgs false

abbrev ll (s : ByteArray) : List UInt8 := s.data.toList
theorem ll_ext {x y : ByteArray} (h : ll x = ll y) : x = y := ByteArray.ext (Array.toList_inj.1 h)
theorem ll_app (x y : ByteArray) : ll (x ++ y) = ll x ++ ll y := by
  show (x ++ y).data.toList = _
  rw [ByteArray.data_append, Array.toList_append]
theorem ll_cut (x : ByteArray) (i j : Nat) : ll (x.extract i j) = ((ll x).drop i).take (j - i) := by
  show (x.extract i j).data.toList = _
  rw [ByteArray.data_extract, Array.toList_extract, List.extract_eq_take_drop]
theorem ll_len (x : ByteArray) : (ll x).length = x.size := sz x
theorem ll_one (c : UInt8) : ll (⟨#[c]⟩ : ByteArray) = [c] := rfl
theorem idx_app : ∀ (l m : List UInt8) (c : UInt8), (∀ b ∈ l, b ≠ c) → Lib.indexByte (l ++ c :: m) c = (l.length : Int)
  | [], m, c, _ => by rw [List.nil_append, idx_cons, if_pos rfl]; rfl
  | b :: l, m, c, h => by
    rw [List.cons_append, idx_cons, if_neg (h b (List.mem_cons_self ..)), idx_app l m c (fun x hx => h x (List.mem_cons_of_mem _ hx)), if_neg (by omega), List.length_cons]
    omega
def okc (b : Int) : Bool := lett b || digt b || decide (b = 95)
theorem aok_at (s : ByteArray) : ∀ m i, aok s m i = true → ∀ j : Nat, i ≤ j → j < i + m → okc (bt s j) = true
  | 0, i, _, j, h1, h2 => by omega
  | m + 1, i, h, j, h1, h2 => by
    unfold aok at h
    rw [Bool.and_eq_true] at h
    by_cases e : j = i
    · subst e; exact h.1
    · exact aok_at s m (i + 1) h.2 j (by omega) (by omega)
theorem gn_at {s : ByteArray} (h : gn s = true) : 1 ≤ s.size ∧ s.size ≤ 16 ∧ lett (bt s 0) = true ∧ ∀ j : Nat, j < s.size → okc (bt s j) = true := by
  unfold gn at h
  simp only [Bool.and_eq_true, decide_eq_true_eq] at h
  obtain ⟨⟨⟨⟨h1, h2⟩, _⟩, h3⟩, _⟩ := h
  refine ⟨h1.1, h1.2, h2, fun j hj => ?_⟩
  by_cases e : j = 0
  · subst e
    unfold okc
    rw [show bt s ((0 : Nat) : Int) = bt s 0 from rfl, h2]
    rfl
  · exact aok_at s _ 1 h3 j (by omega) (by omega)
theorem gn_no {s : ByteArray} (h : gn s = true) (c : UInt8) (hc : okc (c.toNat : Int) = false) : ∀ b ∈ ll s, b ≠ c := by
  intro b hb e
  subst e
  obtain ⟨i, hi, e⟩ := List.mem_iff_getElem.1 hb
  rw [ll_len] at hi
  have := (gn_at h).2.2.2 i hi
  rw [bt_nat s i hi] at this
  have e2 : s[i]'hi = b := by
    rw [← e]
    rfl
  rw [e2, hc] at this
  cases this
theorem cutd_at {s t : ByteArray} {c : UInt8} (h : ∀ b ∈ ll s, b ≠ c) : cutd ((s ++ (⟨#[c]⟩ : ByteArray)) ++ t) c = (s, t, true) ∧ at_ ((s ++ (⟨#[c]⟩ : ByteArray)) ++ t) c = (s.size : Int) := by
  have l : ll ((s ++ (⟨#[c]⟩ : ByteArray)) ++ t) = ll s ++ c :: ll t := by
    rw [ll_app, ll_app, ll_one, List.append_assoc]
    rfl
  have a : at_ ((s ++ (⟨#[c]⟩ : ByteArray)) ++ t) c = (s.size : Int) := by
    show Lib.indexByte (ll ((s ++ (⟨#[c]⟩ : ByteArray)) ++ t)) c = _
    rw [l, idx_app _ _ _ h, ll_len]
  have z : ((s ++ (⟨#[c]⟩ : ByteArray)) ++ t).size = s.size + 1 + t.size := by
    rw [ByteArray.size_append, ByteArray.size_append]; rfl
  refine ⟨?_, a⟩
  unfold cutd
  rw [a, if_pos (by omega), z]
  refine Prod.ext_iff.2 ⟨ll_ext ?_, Prod.ext_iff.2 ⟨ll_ext ?_, rfl⟩⟩
  · rw [ll_cut, l, List.drop_zero, show ((s.size : Int)).toNat - 0 = (ll s).length by rw [ll_len]; omega]
    exact List.take_left' rfl
  · rw [ll_cut, l, show ((s.size : Int) + 1).toNat = (ll s ++ [c]).length by rw [List.length_append, ll_len]; simp, show ll s ++ c :: ll t = (ll s ++ [c]) ++ ll t by rw [List.append_assoc]; rfl, List.drop_left' rfl]
    exact List.take_of_length_le (by rw [ll_len, List.length_append, ll_len, List.length_singleton]; omega)
theorem clt_tab {r c : Int} (h : ins r c = true) : okq4 r c = true := by
  have b := ins_bd h
  have u : ∀ k : Int, (∀ r : Fin 8, ∀ c : Fin 26, okq4 (k + (r.val : Int) + 1) ((c.val : Int) + 1) = true) → k < r → r ≤ k + 8 → okq4 r c = true := by
    intro k t h1 h2
    have := t ⟨(r - k - 1).toNat, by omega⟩ ⟨(c - 1).toNat, by omega⟩
    rw [show k + (((r - k - 1).toNat : Nat) : Int) + 1 = r by omega, show (((c - 1).toNat : Nat) : Int) + 1 = c by omega] at this
    exact this
  have o : r ≤ 8 ∨ (8 < r ∧ r ≤ 16) ∨ (16 < r ∧ r ≤ 24) ∨ (24 < r ∧ r ≤ 32) ∨ (32 < r ∧ r ≤ 40) ∨ (40 < r ∧ r ≤ 48) ∨ (48 < r ∧ r ≤ 56) ∨ 56 < r := by omega
  rcases o with o | o | o | o | o | o | o | o
  · exact u 0 clt_b0 (by omega) (by omega)
  · exact u 8 clt_b1 (by omega) (by omega)
  · exact u 16 clt_b2 (by omega) (by omega)
  · exact u 24 clt_b3 (by omega) (by omega)
  · exact u 32 clt_b4 (by omega) (by omega)
  · exact u 40 clt_b5 (by omega) (by omega)
  · exact u 48 clt_b6 (by omega) (by omega)
  · exact u 56 clt_b7 (by omega) (by omega)
theorem clt_is {r c : Int} (h : ins r c = true) (x y : Bool) : pc (clt r c x y) = (e0, e0, r, c, x, y, true) ∧ at_ (clt r c x y) 33 = -1 ∧ pre (clt r c x y) 91 = false := by
  have := clt_tab h
  unfold okq4 at this
  simp only [Bool.and_eq_true] at this
  have k : okq r c x y = true := by
    cases x <;> cases y
    · exact this.1.1.1
    · exact this.1.1.2
    · exact this.1.2
    · exact this.2
  unfold okq at k
  simp only [Bool.and_eq_true, decide_eq_true_eq, Bool.not_eq_true'] at k
  exact ⟨k.1.1, k.1.2, k.2⟩
theorem dtz_tab : ∀ r : Fin 64, (dt ((r.val : Int) + 1)).size = if (r.val : Int) + 1 < 10 then 1 else 2 := by decide +kernel
theorem dtz_is {r : Int} (h : 1 ≤ r ∧ r ≤ 64) : (dt r).size = if r < 10 then 1 else 2 := by
  have := dtz_tab ⟨(r - 1).toNat, by omega⟩
  rw [show (((r - 1).toNat : Nat) : Int) + 1 = r by omega] at this
  exact this
theorem pr2_name {b sh : ByteArray} {r c : Int} {x y : Bool} (g : gn sh = true) (i : ins r c = true) : pr2 b ((sh ++ (⟨#[33]⟩ : ByteArray)) ++ clt r c x y) = (b, sh, r, c, x, y, true) := by
  unfold pr2
  rw [(cutd_at (gn_no g 33 (by decide))).1, if_pos rfl, if_pos g, (clt_is i x y).1]
  rfl
theorem pr2_bare {b : ByteArray} {r c : Int} {x y : Bool} (i : ins r c = true) : pr2 b (clt r c x y) = (b, e0, r, c, x, y, true) := by
  unfold pr2 cutd
  rw [(clt_is i x y).2.1, if_neg (show ¬ (0 : Int) ≤ -1 by decide)]
  show wr b e0 (pc (clt r c x y)) = _
  rw [(clt_is i x y).1]
  rfl
theorem nil_eq {b : ByteArray} (h : b.size = 0) : b = e0 := ll_ext (by
  have := List.eq_nil_of_length_eq_zero (l := ll b) (by rw [ll_len]; exact h)
  rw [this])
theorem pre_app {s t : ByteArray} {c : UInt8} (h : 0 < s.size) : pre (s ++ t) c = pre s c := by
  unfold pre
  congr 1
  have z : 0 < (s ++ t).size := by rw [ByteArray.size_append]; omega
  have : bt (s ++ t) 0 = bt s 0 := by
    rw [show (0 : Int) = ((0 : Nat) : Int) from rfl, bt_nat _ 0 z, bt_nat _ 0 h, ByteArray.getElem_append_left h]
  rw [this, eq_iff_iff]
  exact ⟨fun q => ⟨h, q.2⟩, fun q => ⟨z, q.2⟩⟩
theorem a_back {b sh : ByteArray} {r c : Int} {x y : Bool} (g : gd b sh r c = true) : pr (pri b sh r c x y) = (b, sh, r, c, x, y, true) := by
  have i := gd_ins g
  unfold pri
  rw [if_pos g]
  unfold gd at g
  rw [i, Bool.true_and] at g
  unfold ptx
  by_cases s0 : sh.size = 0
  · rw [if_pos s0] at g ⊢
    have b0 := of_decide_eq_true g
    rw [if_pos b0]
    unfold pr
    rw [(clt_is i x y).2.2, if_neg (by decide), pr2_bare i]
    have e1 : b = e0 := nil_eq b0
    have e2 : sh = e0 := nil_eq s0
    rw [e1, e2]
  · rw [if_neg s0, Bool.and_eq_true] at g
    have gs := gn_at g.1
    rw [if_neg s0]
    by_cases b0 : b.size = 0
    · have e1 : b = e0 := nil_eq b0
      rw [if_pos b0]
      unfold pr
      have p : pre ((sh ++ (⟨#[33]⟩ : ByteArray)) ++ clt r c x y) 91 = false := by
        rw [pre_app (by rw [ByteArray.size_append]; omega), pre_app (by omega)]
        unfold pre
        refine decide_eq_false (fun q => ?_)
        have := gs.2.2.1
        rw [q.2] at this
        exact absurd this (by decide)
      rw [p, if_neg (by decide), pr2_name g.1 i, e1]
    · rw [if_neg b0]
      have gb : gn b = true := by
        have := g.2
        rw [decide_eq_false b0, Bool.false_or] at this
        exact this
      unfold pr
      have p : pre ((((⟨#[91]⟩ : ByteArray) ++ b) ++ (⟨#[93]⟩ : ByteArray)) ++ ((sh ++ (⟨#[33]⟩ : ByteArray)) ++ clt r c x y)) 91 = true := by
        rw [pre_app (by simp only [ByteArray.size_append, one_sz2]; omega), pre_app (by simp only [ByteArray.size_append, one_sz2]; omega), pre_app (by decide)]
        decide
      have t : tl ((((⟨#[91]⟩ : ByteArray) ++ b) ++ (⟨#[93]⟩ : ByteArray)) ++ ((sh ++ (⟨#[33]⟩ : ByteArray)) ++ clt r c x y)) = (b ++ (⟨#[93]⟩ : ByteArray)) ++ ((sh ++ (⟨#[33]⟩ : ByteArray)) ++ clt r c x y) := by
        apply ll_ext
        show (tl _).data.toList = _
        rw [tl_l]
        show (ll _).drop 1 = _
        rw [ll_app, ll_app, ll_app, ll_one, ll_app (b ++ _), ll_app b]
        rfl
      rw [p, if_pos rfl, t, (cutd_at (gn_no gb 93 (by decide))).1, if_pos rfl, if_pos gb, if_pos (by rw [(cutd_at (gn_no g.1 33 (by decide))).2]; omega), pr2_name g.1 i]

/-! ### what was read is told as long as it was -/
theorem pc_ok {u : ByteArray} (h : (pc u).2.2.2.2.2.2 = true) : ∃ r c x y, pc u = (e0, e0, r, c, x, y, true) ∧ ins r c = true ∧ (clt r c x y).size = u.size := by
  unfold pc at h ⊢
  by_cases z : (td u).size = 0 ∨ lett (bt (td u) 0) = false
  · rw [if_pos z] at h; exact absurd h (by decide)
  rw [if_neg z] at h ⊢
  generalize hn : nm (td (tl (td u))) = n at *
  generalize hc : col (bt (td u) 0) = c at *
  generalize hx : pre (tl (td u)) 36 = x at *
  generalize hy : pre u 36 = y at *
  unfold cel at h ⊢
  by_cases i : ins n c = true
  · rw [if_pos i]
    refine ⟨n, c, x, y, rfl, i, ?_⟩
    have b := ins_bd i
    have k : ∀ x : Bool, (dl x).size = if x = true then 1 else 0 := by intro x; cases x <;> decide
    have e : (clt n c x y).size = (if y = true then 1 else 0) + 1 + (if x = true then 1 else 0) + (if n < 10 then 1 else 2) := by
      unfold clt
      rw [ByteArray.size_append, ByteArray.size_append, ByteArray.size_append, k, k, lt_sz, dtz_is ⟨b.1, b.2.1⟩]
    have d : ∀ s : ByteArray, (td s).size = s.size - (if pre s 36 = true then 1 else 0) ∧ (pre s 36 = true → 0 < s.size) := by
      intro s
      refine ⟨?_, fun q => (of_decide_eq_true q).1⟩
      unfold td
      split
      · exact tl_sz s
      · rfl
    have d1 := d u
    have d2 := d (tl (td u))
    have t1 := tl_sz (td u)
    rw [hy] at d1
    rw [hx] at d2
    have w : (td (tl (td u))).size = if n < 10 then 1 else 2 := by
      have f := @digt_bd (bt (td (tl (td u))) 0)
      have f2 := @digt_bd (bt (td (tl (td u))) 1)
      unfold nm at hn
      by_cases s1 : (td (tl (td u))).size = 1
      · rw [if_pos s1] at hn
        by_cases q : digt (bt (td (tl (td u))) 0) = true ∧ ¬ bt (td (tl (td u))) 0 = 48
        · rw [if_pos q] at hn
          have := f q.1
          rw [if_pos (by omega), s1]
        · rw [if_neg q] at hn; omega
      · rw [if_neg s1] at hn
        by_cases s2 : (td (tl (td u))).size = 2
        · rw [if_pos s2] at hn
          by_cases q : digt (bt (td (tl (td u))) 0) = true ∧ ¬ bt (td (tl (td u))) 0 = 48 ∧ digt (bt (td (tl (td u))) 1) = true
          · rw [if_pos q] at hn
            have := f q.1
            have := f2 q.2.2
            rw [if_neg (by omega), s2]
          · rw [if_neg q] at hn; omega
        · rw [if_neg s2] at hn; omega
    have z0 : (td u).size ≠ 0 := fun q => z (.inl q)
    have q : ∀ s : ByteArray, (td s).size + (if pre s 36 = true then 1 else 0) = s.size := by
      intro s
      have := d s
      by_cases p : pre s 36 = true
      · rw [if_pos p] at this ⊢
        have := this.2 p
        omega
      · rw [if_neg p] at this ⊢
        omega
    have q1 := q u
    have q2 := q (tl (td u))
    rw [hy] at q1
    rw [hx] at q2
    rw [e, ← w]
    generalize (if y = true then 1 else 0) = a at *
    generalize (if x = true then 1 else 0) = a' at *
    omega
  · rw [if_neg i] at h; exact absurd h (by decide)
theorem cutd_ok {t : ByteArray} {c : UInt8} (h : (cutd t c).2.2 = true) : (cutd t c).1.size + 1 + (cutd t c).2.1.size = t.size := by
  have b := at_bd t c
  unfold cutd at h ⊢
  by_cases q : 0 ≤ at_ t c
  · rw [if_pos q]
    simp only [ByteArray.size_extract]
    omega
  · rw [if_neg q] at h; exact absurd (show false = true from h) (by decide)
theorem pr2_ok {b t : ByteArray} (h : (pr2 b t).2.2.2.2.2.2 = true) : ∃ sh r c x y, pr2 b t = (b, sh, r, c, x, y, true) ∧ ins r c = true ∧ ((sh.size = 0 ∧ (clt r c x y).size = t.size ∧ ¬ 0 ≤ at_ t 33) ∨ (gn sh = true ∧ sh.size + 1 + (clt r c x y).size = t.size)) := by
  have w : ∀ (sh : ByteArray) (p : R7), (wr b sh p).2.2.2.2.2.2 = true → p.2.2.2.2.2.2 = true := by
    intro sh p q
    unfold wr at q
    by_cases k : p.2.2.2.2.2.2 = true
    · exact k
    · rw [if_neg k] at q; exact absurd q (by decide)
  unfold pr2 at h ⊢
  by_cases c : (cutd t 33).2.2 = true
  · rw [if_pos c] at h ⊢
    by_cases g : gn (cutd t 33).1 = true
    · rw [if_pos g] at h ⊢
      obtain ⟨r, cc, x, y, e, i, z⟩ := pc_ok (w _ _ h)
      refine ⟨(cutd t 33).1, r, cc, x, y, by rw [e]; rfl, i, .inr ⟨g, ?_⟩⟩
      have := cutd_ok c
      omega
    · rw [if_neg g] at h; exact absurd h (by decide)
  · rw [if_neg c] at h ⊢
    obtain ⟨r, cc, x, y, e, i, z⟩ := pc_ok (w _ _ h)
    refine ⟨e0, r, cc, x, y, by rw [e]; rfl, i, .inl ⟨rfl, z, fun q => c ?_⟩⟩
    unfold cutd
    rw [if_pos q]
theorem pr_ok {s : ByteArray} (h : (pr s).2.2.2.2.2.2 = true) : ∃ b sh r c x y, pr s = (b, sh, r, c, x, y, true) ∧ gd b sh r c = true ∧ (pri b sh r c x y).size = s.size := by
  unfold pr at h ⊢
  by_cases p : pre s 91 = true
  · rw [if_pos p] at h ⊢
    have s1 := (of_decide_eq_true p).1
    have tz := tl_sz s
    by_cases c : (cutd (tl s) 93).2.2 = true
    · rw [if_pos c] at h ⊢
      have z := cutd_ok c
      by_cases g : gn (cutd (tl s) 93).1 = true
      · rw [if_pos g] at h ⊢
        by_cases q : 0 ≤ at_ (cutd (tl s) 93).2.1 33
        · rw [if_pos q] at h ⊢
          obtain ⟨sh, r, cc, x, y, e, i, o⟩ := pr2_ok h
          obtain ⟨_, _, q'⟩ | ⟨gs, o⟩ := o
          · exact absurd q q'
          · have gb := gn_at g
            have gz := gn_at gs
            have gg : gd (cutd (tl s) 93).1 sh r cc = true := by
              unfold gd
              rw [i, if_neg (by omega), gs, g]
              simp
            refine ⟨(cutd (tl s) 93).1, sh, r, cc, x, y, e, gg, ?_⟩
            unfold pri ptx
            rw [if_pos gg, if_neg (by omega), if_neg (by omega)]
            simp only [ByteArray.size_append, one_sz2]
            omega
        · rw [if_neg q] at h; exact absurd h (by decide)
      · rw [if_neg g] at h; exact absurd h (by decide)
    · rw [if_neg c] at h; exact absurd h (by decide)
  · rw [if_neg p] at h ⊢
    obtain ⟨sh, r, cc, x, y, e, i, o⟩ := pr2_ok h
    obtain ⟨z, o, _⟩ | ⟨gs, o⟩ := o
    · have gg : gd e0 sh r cc = true := by
        unfold gd
        rw [i, if_pos z]
        rfl
      refine ⟨e0, sh, r, cc, x, y, e, gg, ?_⟩
      unfold pri ptx
      rw [if_pos gg, if_pos z, if_pos (show e0.size = 0 from rfl)]
      exact o
    · have gz := gn_at gs
      have gg : gd e0 sh r cc = true := by
        unfold gd
        rw [i, if_neg (by omega), gs]
        rfl
      refine ⟨e0, sh, r, cc, x, y, e, gg, ?_⟩
      unfold pri ptx
      rw [if_pos gg, if_neg (by omega), if_pos (show e0.size = 0 from rfl)]
      simp only [ByteArray.size_append, one_sz2]
      exact o
end Go.Proofs.YtbpckmbepgojfaaDoor.Ad
