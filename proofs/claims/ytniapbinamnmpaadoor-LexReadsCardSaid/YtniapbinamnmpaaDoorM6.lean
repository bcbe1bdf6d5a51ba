/- Contracts and plain lemmas of the functions that the law reaches, part 6. -/
import Derived.Maps.OwnOps
import Derived.Maps.OwnSet
import Derived.Maps.Views
import Derived.StringKeys
import Derived.Carry
import Derived.Lib.LaidTab
import Derived.Lib.AppendIntMem
import Derived.Test.YtniapbinamnmpaaDoorM5
namespace Go.Proofs.YtniapbinamnmpaaDoor.L
set_option linter.unusedVariables false
open Go.Maps Go.WideMaps Go.RowKit Go.Proofs.YtniapbinamnmpaaDoorW.PrintWords Go.Proofs.YtniapbinamnmpaaDoorW.PrintLast Go.Proofs.YtniapbinamnmpaaDoorW.PrintMore
abbrev TabA (w : World) : Prop := Lib.TabIs Tryd.prog w "strings.asciiSpace" .u8 Lib.asciiSpaceTab
theorem tab_at {w w' : World} (h : TabA w) (hb : Below w.heap.size w w') : TabA w' := Lib.tabBelow_of_tabIs h w' hb
def wordsS : ByteArray := ⟨#[115, 101, 108, 101, 99, 116, 32, 100, 105, 115, 116, 105, 110, 99, 116, 32, 102, 114, 111, 109, 32, 106, 111, 105, 110, 32, 108, 101, 102, 116, 32, 115, 101, 109, 105, 32, 111, 110, 32, 119, 104, 101, 114, 101, 32, 103, 114, 111, 117, 112, 32, 98, 121, 32, 117, 110, 105, 111, 110, 32, 97, 108, 108, 32, 111, 114, 100, 101, 114, 32, 100, 101, 115, 99, 32, 97, 110, 100, 32, 111, 114, 32, 110, 111, 116, 32, 105, 115, 32, 110, 117, 108, 108, 32, 116, 114, 117, 101, 32, 102, 97, 108, 115, 101, 32, 99, 111, 117, 110, 116, 32, 115, 117, 109, 32, 109, 105, 110, 32, 109, 97, 120]⟩
def wordsL : List (List UInt8) := Lib.fields wordsS.data.toList
def isWord (l : List UInt8) : Bool := decide (l ∈ wordsL)
abbrev MapB (w : World) (b n : Nat) (D : DataW Unit) : Prop := w.ownsMap Tryd.prog 9 (plainElem Tryd.prog 4) b n D
def KnownAt (m : Nat) (w : World) : Prop := ∃ n D, MapB w m n D ∧ ∀ l : List UInt8, D.atKey (.string l) (.lit (.bool false)) = .lit (.bool (isWord l))
theorem KnownAt.later {m : Nat} {w w' : World} (h : KnownAt m w) (hb : Below w.heap.size w w') : KnownAt m w' := by
  obtain ⟨n, D, h1, h2⟩ := h
  refine ⟨n, D, ?_, h2⟩
  obtain ⟨es, clock, hm, h3⟩ := h1
  exact ⟨es, clock, (hb.block m (blk_lt hm)).trans hm, h3⟩
theorem plainElem_bool_inv {H : Type} {P : Program} {e : TypeId} (he : P.underlying e = some .bool) {v : Value} {z : DataW H × List MemPlace} (h : plainElem P e v = some z) : ∃ x, v = .bool x ∧ z = (.lit (.bool x), []) := by
  unfold plainElem at h
  rw [he] at h
  cases v <;> simp at h
  exact ⟨_, rfl, h.symm⟩
set_option maxRecDepth 1000000 in
theorem known_look {m : Nat} {w : World} (h : KnownAt m w) (s : ByteArray) (hs : s.size ≤ 1000000) (l : List UInt8) (hl : s.data.toList = l) (b : Bool) (hb : isWord l = b) : (Instr.lookup 39 (.map (some m)) (.string s) false).run Tryd.prog w = .ok (.bool b) w := by
  obtain ⟨n, D, h1, h2⟩ := h
  obtain ⟨v, ps, h3, h4⟩ := h1.lookup (string_keyed Tryd.underlying9) Tryd.underlying39 (z := .bool false) (by kernel_rfl) (plainElem_bool Tryd.underlying4 false) (keyOf_string_mk (s := s) Tryd.underlying9 (by unfold maxLen; omega))
  rw [h2, hl, hb] at h4
  rw [h3]
  obtain ⟨x, hv, hx⟩ := plainElem_bool_inv Tryd.underlying4 h4
  have hb2 : x = b := by injection hx with e1; injection e1 with e2; injection e2 with e3; exact e3.symm
  rw [hb2] at hv
  rw [hv]
def allB (s : ByteArray) : Bool := s.data.toList.all fun b => decide (b.toNat < 128)
set_option maxRecDepth 1000000 in
theorem words_all : allB wordsS = true := by decide +kernel
set_option maxRecDepth 1000000 in
theorem words_size : wordsS.size = 122 := by decide +kernel
theorem all_at {l : List UInt8} (h : (l.all fun b => decide (b.toNat < 128)) = true) : ∀ (j : Nat) (b : UInt8), l[j]? = some b → b.toNat < 128 :=
  fun j b hb => of_decide_eq_true (List.all_eq_true.1 h b (List.mem_of_getElem? hb))
theorem isWord_take (k : Nat) (hk : k < wordsL.length) (l : List UInt8) : decide (l ∈ wordsL.take (k + 1)) = (decide (l ∈ wordsL.take k) || decide (l = wordsL[k])) := by
  have e := List.take_succ_eq_append_getElem hk
  rw [Bool.eq_iff_iff, Bool.or_eq_true, decide_eq_true_eq, decide_eq_true_eq, decide_eq_true_eq, e, List.mem_append, List.mem_singleton]
def WInv (w0 : World) (g b k : Nat) (w : World) : Prop := ∃ D, MapB w b k D ∧ (∀ l : List UInt8, D.atKey (.string l) (.lit (.bool false)) = .lit (.bool (decide (l ∈ wordsL.take k)))) ∧ Below w0.heap.size w0 w ∧
  w.heap[g]? = some (.cells ((wordsL.map fun l => Value.string ⟨l.toArray⟩).toArray) 9 (0, 0)) ∧ g ≠ b ∧ w0.heap.size ≤ b
theorem words_len : wordsL.length = 25 := by decide +kernel
theorem words_short : ∀ l ∈ wordsL, l.length ≤ 100 := by decide +kernel
set_option maxHeartbeats 2000000 in
set_option maxRecDepth 100000 in
theorem words_ok (w : World) (hT : TabA w) : Calls Tryd.prog 13 #[] w fun e w' => ∃ m, e = .returned (.map (some m)) ∧ KnownAt m w' ∧ Below w.heap.size w w' := by
  have hmm := @run_makeMap Tryd.prog
  have HF : Hid (∀ W, Below w.heap.size w W → Calls Tryd.prog 28 #[.string wordsS] W fun e w' => e = .returned (.slice (some ⟨W.heap.size, 0, none⟩) wordsL.length wordsL.length) ∧ w' = W.alloc (.cells ((wordsL.map fun l => Value.string ⟨l.toArray⟩).toArray) 9)) :=
    Lib.hid (fun W hW => Tryd.strings_Fields_laid wordsS W (by rw [words_size]; omega) (all_at words_all) (tab_at hT hW))
  obtain ⟨n, hn⟩ : ∃ n, wordsL.length = n := ⟨_, rfl⟩
  have hn25 : n = 25 := by rw [← hn]; exact words_len
  have HN := Lib.hid hn; have HN25 := Lib.hid hn25
  rw [hn] at HF
  clear hT hn hn25
  unfold wordsS at HF
  go_enter Tryd.func13, Tryd.ntmps13
  go_upto_region 3 with (first | (go_at_call 28; refine (HF.out _ (blA (Below.refl _ w) _)).mono ?_; rintro e w2 ⟨rfl, hw2⟩; have HW2 := Lib.hid hw2; clear hw2))
  obtain ⟨g, hg⟩ : ∃ g, w.heap.size + 1 = g := ⟨_, rfl⟩
  rw [hg]
  have hg' : g = w.heap.size + 1 := hg.symm
  have hW0 : WInv w g w.heap.size 0 w2 := by
    have hw2 := HW2.out
    subst hw2
    refine ⟨.map [], ?_, fun l => ?_, ?_, ?_, by omega, Nat.le_refl _⟩
    · exact (World.ownsMap_made w _ _ _).alloc _
    · simp [DataW.atKey]
    · exact (blA (Below.refl _ w) _).alloc (by simp) _
    · have := heap_alloc_new (w.alloc (.map #[] 0)) (.cells ((wordsL.map fun l => Value.string ⟨l.toArray⟩).toArray) 9)
      rw [← hg]; simpa only [World.size_alloc] using this
  have HW0 := Lib.hid hW0
  clear hW0 HW2 HF hg hg'
  go_wp2_with fail
  go_loopw [7, 3] (fun v7 _ wr => ∃ k : Nat, k ≤ n ∧ v7 = .int .i64 k ∧ Hid (WInv w g w.heap.size k wr)) (fun i _ _ => n - (intOf i).toNat)
  case atStart => exact ⟨0, Nat.zero_le _, rfl, HW0⟩
  case round =>
    clear HW0
    obtain ⟨k, hk, rfl, HI⟩ := hrel
    by_cases hlt : k < n
    · have hkl : k < wordsL.length := by rw [HN.out]; exact hlt
      obtain ⟨l, hl⟩ : ∃ l, wordsL[k] = l := ⟨_, rfl⟩
      obtain ⟨D, h1, h2, h3, h4, h5, h6⟩ := HI.out
      have hcell : wr.cell? ⟨g, k, none⟩ = some (.string ⟨l.toArray⟩) := by
        rw [bkC h4 k]; simp [hkl, hl]
      have hls : l.length ≤ 100 := words_short l (hl ▸ List.getElem_mem hkl)
      have hkey : keyOf Tryd.prog 9 (.string ⟨l.toArray⟩) = some (.string l) := by
        rw [keyOf_string_mk Tryd.underlying9 (by rw [ba_size]; unfold maxLen; omega), ba_mk]
      have HM := Lib.hid h1; have H2 := Lib.hid h2; have H3 := Lib.hid h3; have H4 := Lib.hid h4; have HL := Lib.hid hl; have HKEY := Lib.hid hkey; have HN2 := Lib.hid HN25.out
      have hk25 : k ≤ 25 := by have := HN25.out; omega
      clear h1 h2 h3 h4 hl hkey
      go_wp2_with (first | (at_mapUpdate; refine wpList_mapUpdate_own _ rfl _ _ _ 39 rfl 9 4 (string_keyed Tryd.underlying9) Tryd.underlying39 _ w.heap.size k D rfl HM.out (by unfold maxLen; omega) _ _ (.string l) rfl rfl HKEY.out (.lit (.bool true)) [] (plainElem_bool Tryd.underlying4 true) ?_; intro w1 hown1 hgrow1))
      have HO := Lib.hid hown1; have HG := Lib.hid hgrow1
      clear hown1 hgrow1
      go_roundw
      case rel =>
        refine ⟨k + 1, by omega, by go_num, ⟨D.put (.string l) (.lit (.bool true)), HO.out, fun m => ?_, ?_, ?_, h5, h6⟩⟩
        · rw [isWord_take k hkl, HL.out]
          by_cases hml : m = l
          · subst hml
            rw [atKey_put_same HM.out.isMap (show WideAt.IsKeyLit (.string m) from trivial)]
            simp
          · rw [atKey_put_other (fun e => hml (by injection e)), H2.out m, decide_eq_false hml, Bool.or_false]
        · exact H3.out.trans ⟨HG.out.os, HG.out.tape, HG.out.output, HG.out.size, fun q hq => HG.out.block q (by have := H3.out.size; omega) (fun e => by have := Option.some.inj e; omega)⟩
        · exact (HG.out.block g (blk_lt H4.out) (fun e => h5 (Option.some.inj e))).trans H4.out
      case measure => simp [intOf]; omega
    · obtain rfl : n = k := by omega
      go_wp2_with fail
      go_ret
      obtain ⟨D, h1, h2, h3, h4, h5, h6⟩ := HI.out
      refine ⟨w.heap.size, rfl, ⟨n, D, h1, fun l => ?_⟩, h3⟩
      rw [h2, ← HN.out, List.take_length]; rfl
end Go.Proofs.YtniapbinamnmpaaDoor.L
