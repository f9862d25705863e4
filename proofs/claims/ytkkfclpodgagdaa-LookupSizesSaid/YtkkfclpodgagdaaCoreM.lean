/- The machine's operations do what the rules say: conversions, literals. -/
import Derived.Test.YtkkfclpodgagdaaCoreL
import Derived.Lib.ConvBytes
namespace Go.Proofs.Ytkkfclpodgagdaa.Ab
open Go.RowKit
set_option linter.unusedVariables false
set_option linter.unusedSimpArgs false

section
variable {P : Program} {w0 : World} {m0 : Mem} {N : Nat} {m : Mem} {ι : List Blk} {e : Env} {s : List O} {a : Act} {w : World} {o : Oper} {K : V → List O → Prop}

theorem bytesV_get : ∀ (els : List (List V)) (l : List Int), bytesV els = some l → els.length = l.length ∧ ∀ (i : Nat) n, l[i]? = some n → els[i]? = some [.int .u8 n]
  | [], l, h => by
    simp only [bytesV, Option.some.injEq] at h
    subst h
    simp
  | el :: els, l, h => by
    simp only [bytesV] at h
    split at h
    · rename_i n r hn hr
      obtain rfl := Option.some.inj h
      obtain ⟨h1, h2⟩ := bytesV_get els r hr
      refine ⟨by simp [h1], fun i z hi => ?_⟩
      cases i with
      | zero =>
        simp at hi
        subst hi
        unfold byteOf at hn
        split at hn
        · simp at hn; subst hn; rfl
        · cases hn
      | succ i => exact h2 i z (by simpa using hi)
    · cases h
theorem run_bytesStr {src dst el : TypeId} (hs : P.underlying src = some (.slice el)) (he : P.underlying el = some (.int .u8)) (hd : P.underlying dst = some .string) {els : List (List V)} {l : List Int} (hb : bytesV els = some l) {vs : List Value} (fl : Flat m 1 els vs)
    {p : Option Addr} {cap : Nat} (ha : els ≠ [] → ∃ b o, p = some ⟨b, o, none⟩ ∧ ∀ (j : Nat) y, vs[j]? = some y → w.cell? ⟨b, o + j, none⟩ = some y) :
    (convert src dst (.slice p els.length cap)).run P w = .ok (.string (strOfNums l)) w := by
  obtain ⟨h1, h2⟩ := bytesV_get els l hb
  by_cases hne : els = []
  · subst hne
    have : l = [] := List.eq_nil_of_length_eq_zero (by simpa using h1.symm)
    subst this
    cases p with
    | none => exact run_convert_bytes_nil w src el hs he _ _ dst hd
    | some a => 
      obtain ⟨b, o, sp⟩ := a
      rw [run_convert_bytes_string w src dst el _ _ cap hs he hd]
      simp [Conv.bytesToString, loadCells, loadCellsFrom]
      rfl
  · obtain ⟨b, o, rfl, hm⟩ := ha hne
    refine run_convert_bytes_arg w src el hs he b o _ cap l h1.symm (fun i hi => ?_) dst hd
    have hil : i < l.length := by omega
    have hn := h2 i _ (List.getElem?_eq_getElem hil)
    obtain ⟨x, hx, rx⟩ := fl.rep i 0 _ (.int .u8 l[i]) hn rfl
    obtain ⟨rfl, _⟩ := rx.int_inv
    rw [Nat.mul_one, Nat.add_zero] at hx
    rw [hm i _ hx, List.getD_eq_getElem?_getD, List.getElem?_eq_getElem hil, Option.getD_some]

theorem goes_convert (h : St w0 m0 N m ι e s a w) {src dst : TypeId} {x : Operand} (ho : o.op = .convert src dst x) (hx : okX x = true) (hk : opK P e s o K) : Goes P o a w (Lv w0 m0 N e a K) := by
  simp only [opK, ho] at hk
  have rx := h.at hx
  generalize hvx : a.eval x = vx at *
  generalize ev e x = ux at *
  have lenStr : ∀ {els : List (List V)} {l : List Int}, bytesV els = some l → els.length ≤ 9223372036854775807 → (strOfNums l).size ≤ 9223372036854775807 := by
    intro els l hb hl
    rw [strOfNums_size, ← (bytesV_get els l hb).1]
    exact hl
  have each1 : ∀ {els : List (List V)} {l : List Int}, bytesV els = some l → ∀ el ∈ els, el.length = 1 := by
    intro els l hb el he
    obtain ⟨h1, h2⟩ := bytesV_get els l hb
    obtain ⟨i, hi, rfl⟩ := List.mem_iff_getElem.1 he
    have := h2 i _ (List.getElem?_eq_getElem (h1 ▸ hi))
    rw [List.getElem?_eq_getElem hi] at this
    rw [Option.some.inj this]
    rfl
  unfold convK at hk
  split at hk
  · rename_i d k j n hs hd
    obtain ⟨rfl, _⟩ := rx.int_inv
    refine Goes.here h (x := .int k (k.wrap n)) ?_ (wrapR _ _) hk
    simp [execOp, ho, hvx, convert, run_und hs, run_und hd, Conv.intToInt]
  · rename_i d b hs hd
    obtain ⟨rfl, hb⟩ := rx.str_inv
    refine Goes.here h (x := .string b) ?_ (.str _ _ hb) hk
    simp [execOp, ho, hvx, convert, run_und hs, run_und hd]
  · rename_i x2 el hs hd hns
    split at hk
    · rename_i he
      split at hk
      · rename_i xx els
        obtain ⟨hk, ⟨hsome⟩⟩ := hk
        obtain ⟨l, hl⟩ := Option.isSome_iff_exists.1 hsome
        obtain ⟨vs, p, cap, rfl, hc1, hx1, hl1, fl, src1, ha⟩ := row_cells (P := P) (w := w) rx h.mok (each1 hl)
        have hrun := run_bytesStr (P := P) (cap := cap) hs he hd hl fl ha
        refine Goes.here h (x := .string (strOfNums l)) ?_ (.str _ _ (lenStr hl hl1)) (hk l hl)
        simp [execOp, ho, hvx, hrun]
      · rename_i id off len
        rw [at?_eq] at hk
        cases rx with
        | sl _ _ _ _ p cap β hβ hl hc hn hb ha =>
          split at hk
          · rename_i wr sz els hss
            obtain ⟨hk, ⟨hsome⟩⟩ := hk
            obtain ⟨l, hl2⟩ := Option.isSome_iff_exists.1 hsome
            obtain ⟨vs, et, fr, rfl, hh, hvl, hcap, hnn, hel, hszs, hcs, hfr, hml, hmn⟩ := h.obj id _ β hss hβ
            have hlen : ((els.drop off).take len).length = len := by simp; omega
            have hle : els.length * β.sz ≤ vs.length := by rw [hvl]; exact Nat.mul_le_mul_right _ hcap
            have fl := Flat.part hcs hszs hle off len (by omega)
            have hrun : (convert src dst (.slice p len cap)).run P w = .ok (.string (strOfNums l)) w := by
              rcases Nat.eq_zero_or_pos len with q | q
              · subst q
                have e0 : (els.drop off).take 0 = [] := by simp
                rw [e0] at hl2
                exact run_bytesStr (P := P) (els := []) (vs := []) (cap := cap) hs he hd hl2 (Flat.nil m 1) (fun z => absurd rfl z)
              · have hs1 : β.sz = 1 := by
                  have hne : 0 < ((els.drop off).take len).length := by omega
                  have h1 := each1 hl2 _ (List.getElem_mem hne)
                  have h2 := hszs _ (List.mem_of_mem_drop (List.mem_of_mem_take (List.getElem_mem hne)))
                  omega
                obtain rfl := ha (by omega)
                rw [hs1] at fl
                have := run_bytesStr (P := P) (w := w) (p := some ⟨β.blk, off * β.sz, none⟩) (cap := cap) hs he hd hl2 fl (fun _ => ⟨_, _, rfl, fun j y hj => by
                  rw [List.getElem?_take] at hj
                  split at hj
                  · rw [List.getElem?_drop] at hj
                    rw [cell_heap hh, hs1]
                    exact hj
                  · cases hj⟩)
                rwa [hlen] at this
            refine Goes.here h (x := .string (strOfNums l)) ?_ (.str _ _ (lenStr hl2 (by omega))) (hk l hl2)
            simp [execOp, ho, hvx, hrun]
          · exact hk.elim
      · exact hk.elim
    · exact hk.elim
  · rename_i el b hs hd
    obtain ⟨rfl, hb⟩ := rx.str_inv
    split at hk
    · rename_i he hz
      obtain ⟨⟨hbs⟩, hk⟩ := hk
      rw [litK_eq] at hk
      have hrun := Lib.run_convert_string_bytes (P := P) w src dst el b hs hd he
      unfold Goes
      have hrun2 : (execOp a.eval o).run P w = .ok (.value (.slice (some ⟨w.heap.size, 0, none⟩) b.size (grownCap w b.size 0 el))) (Lib.bytesWorld w el b) := by
        simp [execOp, ho, hvx, hrun]
      rw [hrun2]
      have hge := grownCap_ge w b.size 0 el
      have hbel : Below w.heap.size w (Lib.bytesWorld w el b) := ⟨rfl, rfl, rfl, by rw [Lib.bytesWorld_size]; omega, fun j hj => Lib.bytesWorld_at_old w el b j hj⟩
      have hcells : (Lib.bytesCells w el b).toList = (b.data.toList.map fun c => Value.int .u8 c.toNat) ++ List.replicate (grownCap w b.size 0 el - b.size) (.int .u8 0) := by
        simp [Lib.bytesCells]
      have hsz : (Lib.bytesCells w el b).size = grownCap w b.size 0 el := by
        have := congrArg List.length hcells
        simp at this
        rw [this]
        omega
      have hat := Lib.bytesWorld_at_new w el b
      refine ⟨_, _, m, ι ++ [⟨w.heap.size, grownCap w b.size 0 el, 1, b.size⟩], hk, .sl _ s.length 0 _ _ _ ⟨w.heap.size, grownCap w b.size 0 el, 1, b.size⟩ (by rw [← h.len]; simp) hge (by simp) (by simp) hb (fun _ => by simp), ?_⟩
      refine h.new hbel (by rw [Lib.bytesWorld_size]; omega) rfl ⟨(Lib.bytesCells w el b).toList, el, _, rfl, by rw [Array.toArray_toList]; exact hat, by simp [hsz], by simpa using hge, by simp, by simpa using hb, by simp, fun i j el' c hi hj => ?_, fun i hi => ?_, fun o _ => h.mok.none_ (Nat.le_refl _) o, fun _ o => h.mok.none_ (Nat.le_refl _) o⟩
      · obtain ⟨x, hx, rx⟩ := (flat_bytes m b).rep i j el' c hi hj
        exact ⟨x, by rw [hcells, List.getElem?_append_left (List.getElem?_eq_some_iff.1 hx).1]; exact hx, rx⟩
      · simp only [Array.length_toList] at hi
        omega
    · exact hk.elim
  · exact hk.elim
end
end Go.Proofs.Ytkkfclpodgagdaa.Ab
