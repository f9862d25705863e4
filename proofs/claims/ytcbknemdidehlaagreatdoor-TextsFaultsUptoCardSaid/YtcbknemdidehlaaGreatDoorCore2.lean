/- The small reckoner, part 2. -/
import Derived.Test.YtcbknemdidehlaaGreatDoorRows
import Derived.ChangeArms
import Derived.Deep.Slices
import Derived.SizedLaws
import Derived.Test.YtcbknemdidehlaaGreatDoorCore1
namespace Go.Proofs.YtcbknemdidehlaaGreatDoor.Ab
open Go.RowKit
set_option linter.all false
def memW (w : World) : Mem := fun b o => w.cell? ⟨b, o, none⟩
theorem memW_ok (w : World) : (memW w).ok w := fun b o v h => h
def Opens (P : Program) (w : World) (t : TypeId) {α : Type} (d : α → List V) (good : α → Prop) (bk : α → Nat) : Prop :=
 ∀ (H : Type) (enc : TypeId × Value → H) (spare : Nat → Bool) (held : Bool) (fuel : Nat) (cs : List Value) (x : DataW H × List MemPlace), DataW.trod enc P w 0 spare held fuel t cs = some x → (∀ n ∈ x.1.weights P t, n ≤ reachBytes) → ∃ a, RepL (memW w) [] (d a) cs ∧ good a ∧ bk a ≤ Rows.uptoBulk x.1
section
variable {P : Program} {w : World} {t e : TypeId} {α β : Type} {d : α → List V} {d' : β → List V} {good : α → Prop} {good' : β → Prop} {bk : α → Nat} {bk' : β → Nat}
theorem repL_one {m : Mem} {ι : List Blk} {c : V} {v : Value} (h : Rep m ι c v) : RepL m ι [c] [v] := ⟨rfl, fun i x y hx hy => by
 cases i with
 | zero => simp at hx hy; rw [← hx, ← hy]; exact h
 | succ i => simp at hx⟩
theorem opens_int {k : IntKind} (hu : P.underlying t = some (.int k)) : Opens P w t (fun n => [.int k n]) (fun n => k.wrap n = n) (fun _ => 1) := by
 intro H enc spare held fuel cs x h hw
 obtain ⟨n, rfl, rfl, hn⟩ := DataW.trod_int hu h
 have : k.wrap n = n := by
  refine (wrap_iff k n).2 ?_
  simp only [Lit.wf, Bool.and_eq_true, decide_eq_true_eq] at hn
  cases k <;> simp only [IntKind.min, IntKind.max, IntKind.bits, IntKind.signed] at hn <;> simp only [kLo, kHi] <;> first | omega | (simp at hn; omega)
 exact ⟨n, repL_one (.int [] k n this), this, by simp [Rows.uptoBulk]⟩
theorem opens_bool (hu : P.underlying t = some .bool) : Opens P w t (fun b => [.bool b]) (fun _ => True) (fun _ => 1) := by
 intro H enc spare held fuel cs x h hw
 obtain ⟨b, rfl, rfl⟩ := DataW.trod_bool hu h
 exact ⟨b, repL_one (.bool [] b), trivial, by simp [Rows.uptoBulk]⟩
theorem opens_string (hu : P.underlying t = some .string) : Opens P w t (fun s => [.str s]) (fun s => s.size ≤ 140737488351232) (fun s => s.size + 1) := by
 intro H enc spare held fuel cs x h hw
 obtain ⟨s, rfl, rfl, _⟩ := DataW.trod_string hu h
 have hs : s.size ≤ 140737488351232 := by
  have := hw s.data.toList.length (by simp [DataW.weights])
  rw [Array.length_toList] at this
  exact this
 exact ⟨s, repL_one (.str [] s (by omega)), hs, by rw [Rows.uptoBulk, Array.length_toList]; exact Nat.le_refl _⟩
theorem weights_mem_all {H : Type} {P : Program} {e : TypeId} : ∀ {ds : List (DataW H)} {j : Nat} {d : DataW H}, ds[j]? = some d → ∀ n ∈ d.weights P e, n ∈ DataW.weightsAll P e ds
 | [], j, d, hd, n, hn => by simp at hd
 | d0 :: ds, 0, d, hd, n, hn => by
  simp only [List.getElem?_cons_zero, Option.some.injEq] at hd
  subst hd
  simp only [DataW.weightsAll, List.mem_append]
  exact .inl hn
 | d0 :: ds, j + 1, d, hd, n, hn => by
  simp only [List.getElem?_cons_succ] at hd
  simp only [DataW.weightsAll, List.mem_append]
  exact .inr (weights_mem_all hd n hn)
theorem opens_list (H : Type) (enc : TypeId × Value → H) (spare : Nat → Bool) (held : Bool) (n : Nat) (ho : Opens P w e d good bk) (f : Nat → Option (List Value)) : ∀ (len : Nat) (elems : List (DataW H × List MemPlace)), elems.length = len →
  (∀ i, i < len → (f i).bind (DataW.trod enc P w 0 spare held n e) = elems[i]?) → (∀ m ∈ DataW.weightsAll P e (elems.map (·.1)), m ≤ reachBytes) →
  ∃ xs : List α, xs.length = len ∧ (∀ x ∈ xs, good x) ∧ (xs.map bk).sum ≤ Rows.uptoBulkAll (elems.map (·.1)) ∧ ∀ (j : Nat) (p : α), xs[j]? = some p → ∃ c, f j = some c ∧ RepL (memW w) [] (d p) c := by
 intro len
 induction len with
 | zero =>
  intro elems _ _ _
  exact ⟨[], rfl, (fun x h => absurd h List.not_mem_nil), by simp, (fun j p h => by simp at h)⟩
 | succ len ih =>
  intro elems hl hf hw
  have hlt : len < elems.length := by omega
  obtain ⟨xs, h1, h2, hbk, h3⟩ := ih (elems.take len) (by simp; omega) (fun i hi => by rw [hf i (by omega), List.getElem?_take_of_lt hi]) (fun m hm => hw m (by
   have e1 : elems.map (·.1) = (elems.take len).map (·.1) ++ [(elems[len]'hlt).1] := by
    rw [← List.map_singleton, ← List.map_append, ← List.take_succ_eq_append_getElem hlt, List.take_of_length_le (by omega)]
   have e2 : ∀ (a b : List (DataW H)), DataW.weightsAll P e (a ++ b) = DataW.weightsAll P e a ++ DataW.weightsAll P e b := by
    intro a b
    induction a with
    | nil => simp [DataW.weightsAll]
    | cons x a iha => simp [DataW.weightsAll, iha]
   rw [e1, e2]
   exact List.mem_append_left _ hm))
  have h4 := hf len (by omega)
  rw [List.getElem?_eq_getElem hlt] at h4
  obtain ⟨c, hc, ht⟩ := Option.bind_eq_some_iff.1 h4
  obtain ⟨a, ka, ga, ba⟩ := ho H enc spare held n c _ ht (fun m hm => hw m (weights_mem_all (j := len) (by rw [List.getElem?_map, List.getElem?_eq_getElem hlt]; rfl) m hm))
  have e3 : elems.map (·.1) = (elems.take len).map (·.1) ++ [(elems[len]'hlt).1] := by
   rw [← List.map_singleton, ← List.map_append, ← List.take_succ_eq_append_getElem hlt, List.take_of_length_le (by omega)]
  have e4 : ∀ (a b : List (DataW H)), Rows.uptoBulkAll (a ++ b) = Rows.uptoBulkAll a + Rows.uptoBulkAll b := by
   intro a b
   induction a with
   | nil => simp [Rows.uptoBulkAll]
   | cons x a iha => simp [Rows.uptoBulkAll, iha, Nat.add_assoc]
  refine ⟨xs ++ [a], by simp [h1], fun x hx => ?_, by
   rw [e3, e4, List.map_append, List.sum_append]
   have e5 : ([a].map bk).sum = bk a := by simp
   have e6 : Rows.uptoBulkAll [(elems[len]'hlt).1] = Rows.uptoBulk (elems[len]'hlt).1 := by simp [Rows.uptoBulkAll]
   rw [e5, e6]
   exact Nat.add_le_add hbk ba, fun j p hj => ?_⟩
  ·rcases List.mem_append.1 hx with hx | hx
   ·exact h2 x hx
   ·rw [List.mem_singleton.1 hx]; exact ga
  ·rcases Nat.lt_or_ge j xs.length with hj' | hj'
   ·rw [List.getElem?_append_left hj'] at hj
    exact h3 j p hj
   ·rw [List.getElem?_append_right hj'] at hj
    have : j - xs.length = 0 := by
     rcases Nat.eq_zero_or_pos (j - xs.length) with h0 | h0
     ·exact h0
     ·rw [List.getElem?_eq_none (by simp; omega)] at hj; cases hj
    rw [this] at hj
    simp only [List.getElem?_cons_zero, Option.some.injEq] at hj
    subst hj
    have : j = len := by omega
    subst this
    exact ⟨c, hc, ka⟩
theorem cell_off {w : World} {a : Addr} {n : Nat} {v : Value} (h : w.cell? (a.add n) = some v) : w.cell? ⟨a.block, a.off + n, none⟩ = some v := by
 unfold Addr.add at h
 split at h
 ·rename_i h0
  subst h0
  have hs : a.spot = none := by
   unfold World.cell? at h
   split at h
   ·split at h
    ·cases h
    ·rename_i q; simpa using q
   ·cases h
  have : a = ⟨a.block, a.off + 0, none⟩ := by cases a; simp at hs; subst hs; rfl
  rw [← this]
  exact h
 ·exact h
theorem opens_slice (hu : P.underlying t = some (.slice e)) (sz : Nat) (hsz : 0 < sz) (hc : P.cellsOf e = sz) (hd : ∀ a, (d a).length = sz) (ho : Opens P w e d good bk) (B : Nat) (hB : P.bytesOf e = B) :
  Opens P w t (fun (l : List α) => [.row false (l.map d)]) (fun l => l.length * B ≤ 140737488351232 ∧ l.length ≤ 9223372036854775807 ∧ ∀ x ∈ l, good x) (fun l => (l.map bk).sum + 1) := by
 intro H enc spare held fuel cs x h hw
 rcases DataW.trod_slice hu h with ⟨rfl, rfl⟩ | ⟨a, len, cap, elems, rest, n, _, rfl, rfl, hb, hl, hm, hlen, hel, _, _⟩
 ·refine ⟨[], repL_one ?_, ⟨by simp, by simp, fun x h => absurd h List.not_mem_nil⟩, by simp [Rows.uptoBulk]⟩
  exact .row [] false [] none 0 sz 0 0 (fun _ _ => undef) (fun h => by cases h) (Nat.zero_le _) (Nat.zero_le _) (fun _ h => by cases h) (fun h => absurd rfl h) (fun _ _ _ _ h => by simp at h) (fun _ _ _ _ h => by simp at h)
 ·obtain ⟨xs, h1, h2, hbk, h3⟩ := opens_list H enc spare held n ho (fun i => w.cells? 0 (a.add (i * P.cellsOf e)) (P.cellsOf e)) len elems hlen hel (fun m hm => hw m (by
   simp only [DataW.weights, hu, List.mem_cons, List.mem_append]
   exact .inr (.inl hm)))
  have hz := hw ((elems.length + rest.length) * B) (by
   simp only [DataW.weights, hu, List.mem_cons, List.length_map, hB, true_or])
  have hz2 : xs.length * B ≤ 140737488351232 := by
   have e1 : xs.length * B ≤ (elems.length + rest.length) * B := Nat.mul_le_mul_right _ (by omega)
   exact Nat.le_trans e1 hz
  have hmx : maxLen = 9223372036854775807 := rfl
  have cell : ∀ (i j : Nat) (p : α) (c : V), xs[i]? = some p → (d p)[j]? = some c → ∃ v, w.cell? ⟨a.block, a.off + i * sz + j, none⟩ = some v ∧ Rep (memW w) [] c v := by
   intro i j p c hp hcj
   obtain ⟨cs, hcs, rl⟩ := h3 i p hp
   obtain ⟨_, hcl, hcell⟩ := World.cells?_some hcs
   have hj : j < sz := by rw [← hd p]; exact (List.getElem?_eq_some_iff.1 hcj).1
   have hcell' := hcell j (by rw [hc]; exact hj)
   have hjc : j < cs.length := by rw [hcl, hc]; exact hj
   refine ⟨cs[j], ?_, rl.2 j c _ hcj (List.getElem?_eq_getElem hjc)⟩
   have : w.cell? (a.add (i * sz + j)) = some cs[j] := by
    rw [hc, Go.Deep.add_add] at hcell'
    rw [hcell']
    exact List.getElem?_eq_getElem hjc
   have := cell_off this
   rw [← Nat.add_assoc] at this
   exact this
  have hlx : (xs.map d).length = len := by rw [List.length_map, h1]
  refine ⟨xs, repL_one ?_, ⟨hz2, by omega, h2⟩, by rw [Rows.uptoBulk]; show (xs.map bk).sum + 1 ≤ _; omega⟩
  have key := Rep.row (m := memW w) [] false (xs.map d) (some a) cap sz a.block a.off (fun i j => (w.cell? ⟨a.block, a.off + i * sz + j, none⟩).getD undef) (fun h => by cases h) (by omega) (by omega)
   (fun c hc2 => by obtain ⟨p, _, rfl⟩ := List.mem_map.1 hc2; exact hd p)
   (fun hne => by
    have hpos : 0 < xs.length := by rw [← List.length_map (f := d)]; exact List.length_pos_iff.2 hne
    obtain ⟨cs, hcs, rl⟩ := h3 0 _ (List.getElem?_eq_getElem hpos)
    obtain ⟨_, hcl, hcell⟩ := World.cells?_some hcs
    have h0 := hcell 0 (by rw [hc]; exact hsz)
    rw [Nat.zero_mul] at h0
    have hjc : 0 < cs.length := by rw [hcl, hc]; exact hsz
    rw [List.getElem?_eq_getElem hjc] at h0
    have hs : a.spot = none := by
     have h0' : w.cell? a = some cs[0] := h0
     unfold World.cell? at h0'
     split at h0'
     ·split at h0'
      ·cases h0'
      ·rename_i q; simpa using q
     ·cases h0'
    cases a
    simp at hs
    subst hs
    rfl)
   (fun i j el c hel2 hcj => by
    rw [List.getElem?_map] at hel2
    cases hp : xs[i]? with
    | none => rw [hp] at hel2; cases hel2
    | some p =>
     rw [hp] at hel2
     obtain rfl := Option.some.inj hel2
     obtain ⟨v, hv, _⟩ := cell i j p c hp hcj
     show w.cell? ⟨a.block, a.off + i * sz + j, none⟩ = _
     rw [hv]
     rfl)
   (fun i j el c hel2 hcj => by
    rw [List.getElem?_map] at hel2
    cases hp : xs[i]? with
    | none => rw [hp] at hel2; cases hel2
    | some p =>
     rw [hp] at hel2
     obtain rfl := Option.some.inj hel2
     obtain ⟨v, hv, rv⟩ := cell i j p c hp hcj
     rw [hv]
     exact rv)
  rw [hlx] at key
  exact key
def OpensS (P : Program) (w : World) (fs : List Field) (total o : Nat) {α : Type} (d : α → List V) (good : α → Prop) (bk : α → Nat) : Prop :=
 ∀ (H : Type) (enc : TypeId × Value → H) (spare : Nat → Bool) (held : Bool) (n : Nat) (cs : List Value) (ys : List (DataW H × List MemPlace)), cs.length = total → ys.length = fs.length →
  (∀ (j : Nat) (f : Field), fs[j]? = some f → DataW.trod enc P w 0 spare held n f.type ((cs.drop f.offset).take (P.cellsOf f.type)) = ys[j]?) → (∀ m ∈ DataW.weightsEach P (fs.map (·.type)) (ys.map (·.1)), m ≤ reachBytes) → ∃ a, RepL (memW w) [] (d a) (cs.drop o) ∧ good a ∧ bk a ≤ Rows.uptoBulkAll (ys.map (·.1))
theorem opensS_one {f : Field} {total o : Nat} (h : Opens P w f.type d good bk) (ho : f.offset = o) (hk : P.cellsOf f.type = total - o) : OpensS P w [f] total o d good bk := by
 intro H enc spare held n cs ys hcs hy hf hw
 match ys, hy with
 | [y], _ =>
  have h1 := hf 0 f rfl
  rw [ho, hk, List.take_of_length_le (by rw [List.length_drop]; omega)] at h1
  obtain ⟨a, ka, ga, ba⟩ := h H enc spare held n _ y (by simpa using h1) (fun m hm => hw m (by simp [DataW.weightsEach, hm]))
  exact ⟨a, ka, ga, by simp [Rows.uptoBulkAll]; exact ba⟩
theorem repL_append {m : Mem} {a b : List V} {x y : List Value} (h : RepL m [] a x) (k : RepL m [] b y) : RepL m [] (a ++ b) (x ++ y) := by
 refine ⟨by simp [h.1, k.1], fun i u z hu hz => ?_⟩
 rcases Nat.lt_or_ge i a.length with q | q
 ·rw [List.getElem?_append_left q] at hu
  rw [List.getElem?_append_left (h.1 ▸ q)] at hz
  exact h.2 i u z hu hz
 ·rw [List.getElem?_append_right q] at hu
  rw [List.getElem?_append_right (h.1 ▸ q)] at hz
  rw [← h.1] at hz
  exact k.2 _ u z hu hz
theorem opensS_cons {f : Field} {fs : List Field} {total o k : Nat} (h : Opens P w f.type d good bk) (ho : f.offset = o) (hk : P.cellsOf f.type = k) (hr : OpensS P w fs total (o + k) d' good' bk') : OpensS P w (f :: fs) total o (fun x : α × β => d x.1 ++ d' x.2) (fun x => good x.1 ∧ good' x.2) (fun x => bk x.1 + bk' x.2) := by
 intro H enc spare held n cs ys hcs hy hf hw
 match ys, hy with
 | y :: ys, hy =>
  have h1 := hf 0 f rfl
  rw [ho, hk] at h1
  obtain ⟨a, ka, ga, ba⟩ := h H enc spare held n _ y (by simpa using h1) (fun m hm => hw m (by simp only [List.map_cons, DataW.weightsEach, List.mem_append]; exact .inl hm))
  obtain ⟨b, kb, gb, bb⟩ := hr H enc spare held n cs ys hcs (by simpa using hy) (fun j f hj => by simpa using hf (j + 1) f (by simpa using hj)) (fun m hm => hw m (by simp only [List.map_cons, DataW.weightsEach, List.mem_append]; exact .inr hm))
  refine ⟨(a, b), ?_, ⟨ga, gb⟩, by simp only [List.map_cons, Rows.uptoBulkAll]; omega⟩
  have := repL_append ka kb
  rwa [← List.drop_drop, List.take_append_drop] at this
theorem opens_struct {fs : Array Field} (hu : P.underlying t = some (.struct fs)) {total : Nat} (hc : P.cellsOf t = total) (h : OpensS P w fs.toList total 0 d good bk) (f : β → α) (g : α → β) (hfg : ∀ a, f (g a) = a) : Opens P w t (fun b => d (f b)) (fun b => good (f b)) (fun b => bk (f b) + 1) := by
 intro H enc spare held fuel cs x hx hw
 obtain ⟨ys, n, _, rfl, hl, hyl, hf⟩ := DataW.trod_struct hu hx
 obtain ⟨a, ka, ga, ba⟩ := h H enc spare held n cs ys (hl.trans hc) (by simpa using hyl) (fun j f hj => hf j f (by simpa using hj)) (fun m hm => hw m (by simpa [DataW.weights, hu] using hm))
 refine ⟨g a, ?_, by show good (f (g a)); rw [hfg]; exact ga, by show bk (f (g a)) + 1 ≤ _; rw [hfg, Rows.uptoBulk]; omega⟩
 show RepL (memW w) [] (d (f (g a))) cs
 rw [hfg]
 simpa using ka
theorem repL_cons {m : Mem} {c : V} {x : Value} {cs : List V} {xs : List Value} (h : Rep m [] c x) (k : RepL m [] cs xs) : RepL m [] (c :: cs) (x :: xs) := repL_append (repL_one h) k
theorem repL_nil {m : Mem} : RepL m [] [] [] := ⟨rfl, fun i x y h => by simp at h⟩
theorem repL_head {m : Mem} {c : V} {x : Value} (h : RepL m [] [c] [x]) : Rep m [] c x := h.2 0 c x rfl rfl
theorem Ret.law {f : FuncId} {args : List V} {vs : List Value} {W : World} (h : Ret P f args (.bool true)) (hG : Gk (memW W)) (hr : RepL (memW W) [] args vs) (hcall : ∀ args w, (callFunc f args).run P w = .ok (.enter f args) w) :
  Calls P f vs.toArray W fun e W' => e = .returned (.bool true) ∧ Below W.heap.size W W' := by
 have := h (memW W) W vs hG (memW_ok W) hr
 unfold CallsX at this
 rw [hcall] at this
 refine this.mono fun e W' ⟨v, he, m', _, _, rv, hb, _⟩ => ⟨?_, hb⟩
 rw [he, rv.bool_inv]
end
end Go.Proofs.YtcbknemdidehlaaGreatDoor.Ab
namespace Go.Proofs.YtcbknemdidehlaaGreatDoor.Ab
set_option linter.unusedVariables false
open RowKit
def Same (v : V) (x : Value) : Prop := ∀ (m : Mem) (y : Value), Rep m [] v y → y = x
def Sames : List V → List Value → Prop
 | [], [] => True
 | v :: vs, x :: xs => Same v x ∧ Sames vs xs
 | _, _ => False
def Fits (v : V) (x : Value) : Prop := ∀ m : Mem, Rep m [] v x
def Fitss : List V → List Value → Prop
 | [], [] => True
 | v :: vs, x :: xs => Fits v x ∧ Fitss vs xs
 | _, _ => False
theorem same_int (k : IntKind) (n : Int) : Same (.int k n) (.int k n) := fun m y h => h.int_inv.1
theorem same_bool (b : Bool) : Same (.bool b) (.bool b) := fun m y h => h.bool_inv
theorem same_str (s : ByteArray) : Same (.str s) (.string s) := fun m y h => h.str_inv.1
theorem sames_repL {m : Mem} : ∀ {vs : List V} {xs ys : List Value}, Sames vs xs → RepL m [] vs ys → ys = xs
 | [], [], ys, _, h => List.eq_nil_of_length_eq_zero h.1.symm
 | [], _ :: _, _, h, _ => h.elim
 | _ :: _, [], _, h, _ => h.elim
 | v :: vs, x :: xs, [], _, h => by have := h.1; simp at this
 | v :: vs, x :: xs, y :: ys, h, k => by
  rw [h.1 m y (k.2 0 v y rfl rfl), sames_repL h.2 (ys := ys) ⟨by have := k.1; simpa using this, fun i a b ha hb => k.2 (i + 1) a b (by simpa using ha) (by simpa using hb)⟩]
theorem same_agg {cs : List V} {xs : List Value} (h : Sames cs xs) : Same (.agg cs) (.agg xs.toArray) := fun m y k => by
 obtain ⟨vs, rfl, rl⟩ := k.agg_inv
 rw [sames_repL h rl]
theorem fits_int {k : IntKind} {n : Int} (h : k.wrap n = n) : Fits (.int k n) (.int k n) := fun m => .int [] k n h
theorem fits_bool (b : Bool) : Fits (.bool b) (.bool b) := fun m => .bool [] b
theorem fits_str {s : ByteArray} (h : s.size ≤ 9223372036854775807) : Fits (.str s) (.string s) := fun m => .str [] s h
theorem fitss_repL {m : Mem} : ∀ {vs : List V} {xs : List Value}, Fitss vs xs → RepL m [] vs xs
 | [], [], _ => ⟨rfl, fun i a b ha _ => by simp at ha⟩
 | [], _ :: _, h => h.elim
 | _ :: _, [], h => h.elim
 | v :: vs, x :: xs, h => ⟨by have := (fitss_repL (m := m) h.2).1; simpa using this, fun i a b ha hb => by
  cases i with
  | zero => simp at ha hb; subst ha; subst hb; exact h.1 m
  | succ i => exact (fitss_repL (m := m) h.2).2 i a b (by simpa using ha) (by simpa using hb)⟩
theorem fits_agg {cs : List V} {xs : List Value} (h : Fitss cs xs) : Fits (.agg cs) (.agg xs.toArray) := fun m => .agg [] cs xs (fitss_repL (m := m) h).1 (fitss_repL h).2
theorem fits_tup {cs : List V} {xs : List Value} (h : Fitss cs xs) : Fits (.tup cs) (.tuple xs.toArray) := fun m => .tup [] cs xs (fitss_repL (m := m) h).1 (fitss_repL h).2
theorem Ret.calls {P : Program} {f : FuncId} {args : List V} {vs : List Value} {r : V} {x : Value} (hcall : ∀ ar w, (callFunc f ar).run P w = .ok (.enter f ar) w) (ha : Sames args vs) (hr : Fits r x)
  (h : ∀ w, Calls P f vs.toArray w fun e w' => e = .returned x ∧ Below w.heap.size w w') : Ret P f args r := by
 intro m w ys hG hm rv
 rw [sames_repL ha rv]
 unfold CallsX
 rw [hcall]
 refine (h w).mono fun e w' ⟨he, hb⟩ => ⟨x, he, m, fun _ _ _ q => q, fun b o v hv => ?_, hr m, hb, fun b o y hy hn => by rw [hy] at hn; cases hn⟩
 rw [World.cell?_of_block (w := w) (a := ⟨b, o, none⟩) (hb.block b (hm.lt hv))]
 exact hm b o v hv
theorem Ret.hyp {P : Program} {f : FuncId} {args : List V} {r : V} (h : (∀ a ∈ args, wfV 8 a) → Ret P f args r) : Ret P f args r := by
 intro m w vs hG hm rv
 refine h (fun x hx => ?_) m w vs hG hm rv
 obtain ⟨i, hi, rfl⟩ := List.mem_iff_getElem.1 hx
 exact (rv.2 i _ _ (List.getElem?_eq_getElem hi) (List.getElem?_eq_getElem (rv.1 ▸ hi))).wf 8
end Go.Proofs.YtcbknemdidehlaaGreatDoor.Ab
