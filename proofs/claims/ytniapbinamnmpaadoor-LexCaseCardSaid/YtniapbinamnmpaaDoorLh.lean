/- lex.Lex: what it answers, plain; its walk. -/
import Derived.Test.YtniapbinamnmpaaDoorLo
import Derived.Test.YtniapbinamnmpaaDoorLx1
namespace Go.Proofs.YtniapbinamnmpaaDoor.L
set_option linter.unusedVariables false
set_option linter.unusedSimpArgs false
open Go.RowKit Go.Proofs.YtniapbinamnmpaaDoorW.PrintWords Go.Proofs.YtniapbinamnmpaaDoorW.PrintLast Go.Proofs.YtniapbinamnmpaaDoorW.PrintMore

def blankB (c : UInt8) : Bool := c == 32 || (c == 9 || (c == 10 || c == 13))
def lexGo : Nat → List UInt8 → List Tk → Nat → List Tk × Int × Int
  | 0, _, acc, _ => (acc, 0, 0)
  | k + 1, l, acc, i => match l[i]? with
    | none => (acc, 0, 0)
    | some c => if blankB c = true then lexGo k l acc (i + 1) else match oneL l i with
      | .inl p => ([], p.1, p.2)
      | .inr p => if acc.length = 400 then ([], 5, (i : Int)) else lexGo k l (acc ++ [⟨p.1, p.2.1, (i : Int), ⟨p.2.2.1.toArray⟩⟩]) p.2.2.2
def lexL (s : ByteArray) : List Tk × Int × Int := if s.size > 2000 then ([], 5, 0) else lexGo (s.size + 1) s.data.toList [] 0
theorem lexGo_blank {k : Nat} {l : List UInt8} {acc : List Tk} {i : Nat} {c : UInt8} (h : l[i]? = some c) (hb : blankB c = true) : lexGo (k + 1) l acc i = lexGo k l acc (i + 1) := by
  rw [lexGo]; simp only [h, hb, if_true]
theorem lexGo_inl {k : Nat} {l : List UInt8} {acc : List Tk} {i : Nat} {c : UInt8} {e p : Int} (h : l[i]? = some c) (hb : blankB c = false) (ho : oneL l i = .inl (e, p)) : lexGo (k + 1) l acc i = ([], e, p) := by
  rw [lexGo]; simp [h, hb, ho]
theorem lexGo_inr {k : Nat} {l : List UInt8} {acc : List Tk} {i : Nat} {c : UInt8} {kd n : Int} {x : List UInt8} {E : Nat} (h : l[i]? = some c) (hb : blankB c = false) (ho : oneL l i = .inr (kd, n, x, E)) : lexGo (k + 1) l acc i = if acc.length = 400 then ([], 5, (i : Int)) else lexGo k l (acc ++ [⟨kd, n, (i : Int), ⟨x.toArray⟩⟩]) E := by
  rw [lexGo]; simp [h, hb, ho]
theorem lexGo_end (k : Nat) {l : List UInt8} (acc : List Tk) {i : Nat} (h : l.length ≤ i) : lexGo k l acc i = (acc, 0, 0) := by
  cases k with
  | zero => rfl
  | succ k => rw [lexGo, List.getElem?_eq_none h]
theorem span_pos {p : UInt8 → Bool} {c : UInt8} {r : List UInt8} (h : p c = true) : 0 < spanL p (c :: r) := by
  unfold spanL; simp [List.takeWhile_cons, h]
theorem wrd_let {c : UInt8} (h : letB c = true) : wrdB c = true := by unfold wrdB; rw [h]; rfl
theorem signs_pos : ∀ g ∈ signsL, 0 < g.length := by decide
/-- An error is one of two; a token ends behind its place. -/
def OneR (i : Nat) : (Int × Int) ⊕ (Int × Int × List UInt8 × Nat) → Prop
  | .inl p => p.1 = 5 ∨ p.1 = 6
  | .inr p => i < p.2.2.2
theorem one_right (l : List UInt8) (i : Nat) : OneR i (oneL l i) := by
  unfold oneL
  split
  · exact .inr rfl
  · rename_i c r hd
    by_cases h1 : letB c = true
    · rw [if_pos h1]
      split
      · exact .inl rfl
      · show i < i + _
        have := span_pos (p := wrdB) (r := r) (wrd_let h1); omega
    · rw [if_neg h1]
      by_cases h2 : digB c = true
      · rw [if_pos h2]
        split
        · exact .inl rfl
        · show i < i + _
          have := span_pos (p := digB) (r := r) h2; omega
      · rw [if_neg h2]
        by_cases h3 : c = 39
        · rw [if_pos h3]
          split
          · exact .inr rfl
          · split
            · exact .inl rfl
            · show i < i + 1 + _
              omega
        · rw [if_neg h3]
          by_cases h4 : c = 36
          · rw [if_pos h4]
            split
            · exact .inr rfl
            · split
              · exact .inl rfl
              · split
                · exact .inl rfl
                · show i < i + 1 + _
                  omega
          · rw [if_neg h4]
            split
            · rename_i g hg
              show i < i + _
              have := signs_pos g (List.mem_of_find?_eq_some hg); omega
            · exact .inr rfl

theorem infoTk : (Tryd.prog.info? 32).map (fun i => (i.zero, i.size, i.bytes)) = some (some (.agg (tkC 0 0 0 ⟨#[]⟩)), 4, 40) := by kernel_rfl
/-- Behind some tokens: what lies where (w4: behind the boxes). -/
structure LInv (w4 : World) (acc : List Tk) (u : Value) (w : World) : Prop where
  bl : Below w4.heap.size w4 w
  own : Kd.R k32 32 w w4.heap.size (fun _ => True) u acc
  le : acc.length ≤ 400
theorem LInv.later {w4 w w' : World} {acc : List Tk} {u : Value} (h : LInv w4 acc u w) (hb : Below w.heap.size w w') : LInv w4 acc u w' :=
  ⟨h.bl.trans (hb.mono h.bl.size), Kd.R_below h.own hb, h.le⟩
def LexP (w : World) (q : List Tk × Int × Int) (e : Ending) (w' : World) : Prop :=
  ∃ v : Value, e = .returned (.tuple #[v, .int .i64 q.2.1, .int .i64 q.2.2]) ∧ Kd.R k32 32 w' w.heap.size (fun _ => True) v q.1 ∧ Below w.heap.size w w'

set_option maxHeartbeats 8000000 in
set_option maxRecDepth 100000 in
theorem lex_big (s : ByteArray) (w : World) (hs : 2000 < s.size) :
    Calls Tryd.prog 11 #[.string s] w (LexP w ([], 5, 0)) := by
  obtain ⟨n, hn⟩ : ∃ n, s.size = n := ⟨_, rfl⟩
  have hbig : (2000 : Int) < (n : Int) := by omega
  go_enter Tryd.func11, Tryd.ntmps11
  go_upto_region 1 with (first | ((with_reducible refine gate_dst (N := 1) rfl ?_); refine box_event rfl (N := 1) rfl (cs := #[.string s]) (t := 9) (by first | rfl | (go_simp; done) | (go_simp; rfl)) ?_; intro sb hgg w1 hbsb hBsb; have hsc : w1.cell? ⟨sb, 0, none⟩ = some (.string s) := ((blk_cell hbsb 0).trans rfl); clear hgg))
  go_wp2_with fail
  go_ret3
  exact ⟨_, rfl, Kd.R_nil _ _ _ _ _, hBsb⟩
set_option maxHeartbeats 8000000 in
set_option maxRecDepth 100000 in
theorem lex_walk (s : ByteArray) (l : List UInt8) (hl : s.data.toList = l) (q : List Tk × Int × Int) (hs : s.size ≤ 2000) (hq : lexGo (s.size + 1) l [] 0 = q) (w : World) (hT : TabA w) :
    Calls Tryd.prog 11 #[.string s] w (LexP w q) := by
  obtain ⟨n, hn⟩ : ∃ n, s.size = n := ⟨_, rfl⟩
  rw [hn] at hq
  have hn2 : n ≤ 2000 := by omega
  have hbig : ¬ (2000 : Int) < (n : Int) := by omega
  have HQ := Lib.hid hq; have HL := Lib.hid hl; have HT := Lib.hid hT
  have HLN : Hid (l.length = n) := Lib.hid (by rw [← hl, ← sz_list, hn])
  clear hq hl hT
  go_enter Tryd.func11, Tryd.ntmps11
  go_upto_region 1 with (first | ((with_reducible refine gate_dst (N := 1) rfl ?_); refine box_event rfl (N := 1) rfl (cs := #[.string s]) (t := 9) (by first | rfl | (go_simp; done) | (go_simp; rfl)) ?_; intro sb hgg w1 hbsb hBsb; have hsc : w1.cell? ⟨sb, 0, none⟩ = some (.string s) := ((blk_cell hbsb 0).trans rfl); have hsw : w.heap.size ≤ sb := (by omega); clear hgg))
  have HW := Lib.hid (words_ok w1 (tab_at HT.out hBsb))
  go_upto_region 7 with (first | (go_at_call 13; refine HW.out.mono ?_; rintro e_ w2 ⟨m, rfl, hkn, hb2⟩; have HKN2 := Lib.hid hkn; have HB2 := Lib.hid hb2; clear hkn hb2) | ((with_reducible refine gate_dst (N := 5) rfl ?_); refine box_event rfl (N := 5) rfl (cs := #[.map none]) (t := 39) (by first | rfl | (go_simp; done) | (go_simp; rfl)) ?_; intro mb hgg w3 hbmb hBmb; have hmw : w2.heap.size ≤ mb := (by omega); have hm0 : w3.cell? ⟨mb, 0, none⟩ = some (.map none) := ((blk_cell hbmb 0).trans rfl); have hf0 := blk_frozen hbmb 0; clear hgg))
  have HM4 := Lib.hid (blk_set hbmb 0 (.map (some m)))
  have HB24 := Lib.hid (hBmb.setCell (p := ⟨mb, 0, none⟩) hmw (.map (some m)))
  clear hbmb hBmb hm0 hf0 hsc
  generalize w3.setCell ⟨mb, 0, none⟩ (.map (some m)) = w4 at HM4 HB24 ⊢
  have HKN4 : Hid (KnownAt m w4) := Lib.hid (HKN2.out.later HB24.out)
  have HS4 : Hid (w4.heap[sb]? = some (.cells #[.string s] 9 (0, 0))) := by
    have h2 := (HB2.out.block sb (blk_lt hbsb)).trans hbsb
    exact Lib.hid ((HB24.out.block sb (blk_lt h2)).trans h2)
  have HB04 : Hid (Below w.heap.size w w4) := Lib.hid ((hBsb.trans (HB2.out.mono hBsb.size)).trans (HB24.out.mono (Nat.le_trans hBsb.size HB2.out.size)))
  have HI0 : Hid (LInv w4 [] (.slice none 0 0) w4) := Lib.hid ⟨Below.refl _ _, Kd.R_nil _ _ _ _ _, Nat.zero_le _⟩
  clear hbsb hBsb hsw hmw HKN2 HB2 HB24 HW HT
  go_loopw [7, 8] (fun v7 v8 wr => ∃ (i k : Nat) (acc : List Tk), v8 = .int .i64 i ∧ n < i + k ∧ Hid (lexGo k l acc i = q) ∧ Hid (LInv w4 acc v7 wr)) (fun _ v _ => n - (intOf v).toNat)
  case atStart => exact ⟨0, n + 1, [], rfl, by omega, HQ, HI0⟩
  case round =>
    clear HQ HI0
    obtain ⟨i, k, acc, rfl, hik, HGO, HI⟩ := hrel
    obtain ⟨A5, c5, rfl, -, -⟩ := Kd.R_reads HI.out.own
    have hsr := (HI.out.bl.block sb (blk_lt HS4.out)).trans HS4.out
    have hmr := (HI.out.bl.block mb (blk_lt HM4.out)).trans HM4.out
    have hsc : wr.cell? ⟨sb, 0, none⟩ = some (.string s) := (blk_cell hsr 0).trans rfl
    have HSR := Lib.hid hsr; have HMR := Lib.hid hmr
    clear hsr hmr
    by_cases hlt : i < n
    · have hi : i < s.size := by omega
      obtain ⟨k, rfl⟩ : ∃ j, k = j + 1 := ⟨k - 1, by omega⟩
      obtain ⟨c, hc⟩ : ∃ c, s[i] = c := ⟨_, rfl⟩
      have HLI : Hid (l[i]? = some c) := by
        have h1 := byte_at s l HL.out i hi
        have h2 : i < l.length := by rw [HLN.out]; exact hlt
        rw [hc] at h1
        rw [h1, List.getElem?_eq_getElem h2]
        exact Lib.hid (by simp [h2])
      have hi0 : (0 : Int) ≤ (i : Int) := by omega
      have hin' : (i : Int) < (n : Int) := by omega
      have hw1 : IntKind.i64.wrap ((i : Int) + 1) = (i : Int) + 1 := IntWalk.i64_in _ (by omega)
      have hbyte : ∀ (k : UInt8), ((c.toNat : Int) == (k.toNat : Int)) = decide (c = k) := fun k => by
        rw [Bool.eq_iff_iff, beq_iff_eq, decide_eq_true_eq]
        exact ⟨fun h => UInt8.toNat_inj.1 (by omega), fun h => by rw [h]⟩
      have HBY := Lib.hid hbyte; clear hbyte
      by_cases h32 : c = 32
      · have b32 : ((c.toNat : Int) == 32) = true := (HBY.out 32).trans (decide_eq_true h32)
        have HG2 : Hid (lexGo k l acc (i + 1) = q) := Lib.hid ((lexGo_blank HLI.out (by rw [h32]; rfl)).symm.trans HGO.out)
        clear h32
        go_wp2_with fail
        go_roundw
        case rel => exact ⟨i + 1, k, acc, by go_num, by omega, HG2, HI⟩
        case measure => simp [intOf]; omega
      · have b32 : ((c.toNat : Int) == 32) = false := (HBY.out 32).trans (decide_eq_false h32)
        by_cases h9 : c = 9
        · have b9 : ((c.toNat : Int) == 9) = true := (HBY.out 9).trans (decide_eq_true h9)
          have HG2 : Hid (lexGo k l acc (i + 1) = q) := Lib.hid ((lexGo_blank HLI.out (by rw [h9]; rfl)).symm.trans HGO.out)
          clear h9
          go_wp2_with fail
          go_roundw
          case rel => exact ⟨i + 1, k, acc, by go_num, by omega, HG2, HI⟩
          case measure => simp [intOf]; omega
        · have b9 : ((c.toNat : Int) == 9) = false := (HBY.out 9).trans (decide_eq_false h9)
          by_cases h10 : c = 10
          · have b10 : ((c.toNat : Int) == 10) = true := (HBY.out 10).trans (decide_eq_true h10)
            have HG2 : Hid (lexGo k l acc (i + 1) = q) := Lib.hid ((lexGo_blank HLI.out (by rw [h10]; rfl)).symm.trans HGO.out)
            clear h10
            go_wp2_with fail
            go_roundw
            case rel => exact ⟨i + 1, k, acc, by go_num, by omega, HG2, HI⟩
            case measure => simp [intOf]; omega
          · have b10 : ((c.toNat : Int) == 10) = false := (HBY.out 10).trans (decide_eq_false h10)
            by_cases h13 : c = 13
            · have b13 : ((c.toNat : Int) == 13) = true := (HBY.out 13).trans (decide_eq_true h13)
              have HG2 : Hid (lexGo k l acc (i + 1) = q) := Lib.hid ((lexGo_blank HLI.out (by rw [h13]; rfl)).symm.trans HGO.out)
              clear h13
              go_wp2_with fail
              go_roundw
              case rel => exact ⟨i + 1, k, acc, by go_num, by omega, HG2, HI⟩
              case measure => simp [intOf]; omega
            · have b13 : ((c.toNat : Int) == 13) = false := (HBY.out 13).trans (decide_eq_false h13)
              have HBL : Hid (blankB c = false) := by show _ = _; unfold blankB; simp [h32, h9, h10, h13]
              clear h32 h9 h10 h13
              have HONE := Lib.hid (one_ok s l HL.out i sb mb m wr (by omega) hi HSR.out HMR.out (HKN4.out.later HI.out.bl))
              have HR := Lib.hid (one_right l i)
              cases h1 : oneL l i with
              | inl p =>
                obtain ⟨er, p⟩ := p
                have HC : Hid (Calls Tryd.prog 14 #[.int .i64 i, .pointer (some ⟨sb, 0, none⟩), .pointer (some ⟨mb, 0, none⟩)] wr fun e_ w' => (∃ (x0 x1 x2 : Int) (x3 : ByteArray), e_ = .returned (.tuple #[.agg #[.int .i64 x0, .int .i64 x1, .int .i64 x2, .string x3], .int .i64 0, .int .i64 er, .int .i64 p])) ∧ Below wr.heap.size wr w') := by
                  refine Lib.hid (HONE.out.mono ?_)
                  rintro e_ w' ⟨h2, h3⟩
                  rw [h1] at h2
                  exact ⟨h2, h3⟩
                clear HONE
                rw [h1] at HR
                have H1 := Lib.hid h1
                clear h1
                go_upto_region 15 with (first | (go_at_call 14; refine HC.out.mono ?_; rintro e_ w6 ⟨⟨x0, x1, x2, x3, rfl⟩, hb6⟩; have HB6 := Lib.hid hb6; clear hb6) | ((with_reducible refine gate_dst (N := 9) rfl ?_); refine box_event rfl (N := 9) rfl (cs := #[.int .i64 0, .int .i64 0, .int .i64 0, .string ⟨#[]⟩]) (t := 32) (by first | rfl | (go_simp; done) | (go_simp; rfl)) ?_; intro vb hgg w7 hbvb hBvb; have hvb : w6.heap.size ≤ vb := (by omega); have hd0 : w7.cell? ⟨vb, 0, none⟩ = some (.int .i64 0) := ((blk_cell hbvb 0).trans rfl); have he0 := blk_frozen hbvb 0; have hd1 : w7.cell? ⟨vb, 1, none⟩ = some (.int .i64 0) := ((blk_cell hbvb 1).trans rfl); have he1 := blk_frozen hbvb 1; have hd2 : w7.cell? ⟨vb, 2, none⟩ = some (.int .i64 0) := ((blk_cell hbvb 2).trans rfl); have he2 := blk_frozen hbvb 2; have hd3 : w7.cell? ⟨vb, 3, none⟩ = some (.string ⟨#[]⟩) := ((blk_cell hbvb 3).trans rfl); have he3 := blk_frozen hbvb 3; clear hgg))
                have hv8 := tk_put hbvb (x0) (x1) (x2) (x3)
                have HK8 := Lib.hid (HI.out.later (tk_below (HB6.out.trans (hBvb.mono HB6.out.size)) (Nat.le_trans HB6.out.size hvb) (x0) (x1) (x2) (x3)))
                clear hd0 hd1 hd2 hd3 he0 he1 he2 he3 hbvb hBvb HB6 HC hvb hsc
                generalize ((((w7.setCell ⟨vb, 0, none⟩ (.int .i64 (x0))).setCell ⟨vb, 1, none⟩ (.int .i64 (x1))).setCell ⟨vb, 2, none⟩ (.int .i64 (x2))).setCell ⟨vb, 3, none⟩ (.string (x3))) = w8 at hv8 HK8 ⊢
                have he : (er != 0) = true := bne_iff_ne.mpr (by have h : er = 5 ∨ er = 6 := HR.out; omega)
                have HQ : Hid (([], er, p) = q) := Lib.hid ((lexGo_inl HLI.out HBL.out H1.out).symm.trans HGO.out)
                go_wp2_with fail
                go_ret3
                have h := HQ.out
                subst h
                exact ⟨_, rfl, Kd.R_nil _ _ _ _ _, HB04.out.trans (HK8.out.bl.mono HB04.out.size)⟩
              | inr p =>
                obtain ⟨kd, v, x, E⟩ := p
                have HC : Hid (Calls Tryd.prog 14 #[.int .i64 i, .pointer (some ⟨sb, 0, none⟩), .pointer (some ⟨mb, 0, none⟩)] wr fun e_ w' => e_ = .returned (.tuple #[.agg #[.int .i64 kd, .int .i64 v, .int .i64 i, .string ⟨x.toArray⟩], .int .i64 E, .int .i64 0, .int .i64 0]) ∧ Below wr.heap.size wr w') := by
                  refine Lib.hid (HONE.out.mono ?_)
                  rintro e_ w' ⟨h2, h3⟩
                  rw [h1] at h2
                  exact ⟨h2, h3⟩
                clear HONE
                rw [h1] at HR
                have H1 := Lib.hid h1
                clear h1
                go_upto_region 15 with (first | (go_at_call 14; refine HC.out.mono ?_; rintro e_ w6 ⟨rfl, hb6⟩; have HB6 := Lib.hid hb6; clear hb6) | ((with_reducible refine gate_dst (N := 9) rfl ?_); refine box_event rfl (N := 9) rfl (cs := #[.int .i64 0, .int .i64 0, .int .i64 0, .string ⟨#[]⟩]) (t := 32) (by first | rfl | (go_simp; done) | (go_simp; rfl)) ?_; intro vb hgg w7 hbvb hBvb; have hvb : w6.heap.size ≤ vb := (by omega); have hd0 : w7.cell? ⟨vb, 0, none⟩ = some (.int .i64 0) := ((blk_cell hbvb 0).trans rfl); have he0 := blk_frozen hbvb 0; have hd1 : w7.cell? ⟨vb, 1, none⟩ = some (.int .i64 0) := ((blk_cell hbvb 1).trans rfl); have he1 := blk_frozen hbvb 1; have hd2 : w7.cell? ⟨vb, 2, none⟩ = some (.int .i64 0) := ((blk_cell hbvb 2).trans rfl); have he2 := blk_frozen hbvb 2; have hd3 : w7.cell? ⟨vb, 3, none⟩ = some (.string ⟨#[]⟩) := ((blk_cell hbvb 3).trans rfl); have he3 := blk_frozen hbvb 3; clear hgg))
                have hv8 := tk_put hbvb (kd) (v) (i) (⟨x.toArray⟩)
                have HK8 := Lib.hid (HI.out.later (tk_below (HB6.out.trans (hBvb.mono HB6.out.size)) (Nat.le_trans HB6.out.size hvb) (kd) (v) (i) (⟨x.toArray⟩)))
                clear hd0 hd1 hd2 hd3 he0 he1 he2 he3 hbvb hBvb HB6 HC hvb hsc
                generalize ((((w7.setCell ⟨vb, 0, none⟩ (.int .i64 (kd))).setCell ⟨vb, 1, none⟩ (.int .i64 (v))).setCell ⟨vb, 2, none⟩ (.int .i64 (i))).setCell ⟨vb, 3, none⟩ (.string (⟨x.toArray⟩))) = w8 at hv8 HK8 ⊢
                have HG2 := Lib.hid ((lexGo_inr (k := k) (acc := acc) HLI.out HBL.out H1.out).symm.trans HGO.out)
                have hE : i < E := HR.out
                by_cases h4 : acc.length = 400
                · have b4 : ((acc.length : Int) == 400) = true := beq_iff_eq.mpr (by omega)
                  have HQ : Hid (([], 5, (i : Int)) = q) := by have h := HG2.out; rw [if_pos h4] at h; exact Lib.hid h
                  clear h4
                  go_wp2_with fail
                  go_ret3
                  have h := HQ.out
                  subst h
                  exact ⟨_, rfl, Kd.R_nil _ _ _ _ _, HB04.out.trans (HK8.out.bl.mono HB04.out.size)⟩
                · have b4 : ((acc.length : Int) == 400) = false := beq_eq_false_iff_ne.mpr (by omega)
                  have HG3 : Hid (lexGo k l (acc ++ [⟨kd, v, (i : Int), ⟨x.toArray⟩⟩]) E = q) := by have h := HG2.out; rw [if_neg h4] at h; exact Lib.hid h
                  have hal : acc.length < 400 := by have := HK8.out.le; omega
                  clear h4 HG2
                  have hd0 : w8.cell? ⟨vb, 0, none⟩ = some (.int .i64 kd) := ((blk_cell hv8 0).trans rfl)
                  have hd1 : w8.cell? ⟨vb, 1, none⟩ = some (.int .i64 v) := ((blk_cell hv8 1).trans rfl)
                  have hd2 : w8.cell? ⟨vb, 2, none⟩ = some (.int .i64 i) := ((blk_cell hv8 2).trans rfl)
                  have hd3 : w8.cell? ⟨vb, 3, none⟩ = some (.string ⟨x.toArray⟩) := ((blk_cell hv8 3).trans rfl)
                  clear hv8
                  go_wp2_with ((with_reducible refine gate_builtin (b := .append) (xs := #[.tmp 50, .tmp 52]) rfl ?_); at_builtin; refine Kd.R_append k32 (w0 := w4) w4.heap.size rfl (.tmp 50) (.tmp 52) 26 32 (.agg (tkC 0 0 0 ⟨#[]⟩)) 40 rfl Tryd.underlying26 infoTk rfl (by decide) (by omega) (.slice A5 acc.length c5) acc ⟨kd, v, (i : Int), ⟨x.toArray⟩⟩ [.int .i64 kd, .int .i64 v, .int .i64 i, .string ⟨x.toArray⟩] (fun _ => True) (fun _ => False) rfl rfl ?aP (fun _ hk => hk.elim) ?aF ?aO ?aB ?aS ?aL ?_; (case aP => exact k32_mkM _ _ _ ⟨kd, v, (i : Int), ⟨x.toArray⟩⟩); (case aB => exact HK8.out.bl); (case aF => exact (fun _ _ => trivial)); (case aO => exact HK8.out.own); (case aS => exact HK8.out.bl.size); (case aL => omega); intro v1 w9 ho hb hg hat; have HO9 := Lib.hid ho; have HB9 := Lib.hid hb; clear ho hb hg hat)
                  go_roundw
                  case rel => exact ⟨E, k, acc ++ [⟨kd, v, (i : Int), ⟨x.toArray⟩⟩], by go_num, by omega, HG3, Lib.hid ⟨HB9.out, HO9.out, by simp; omega⟩⟩
                  case measure => simp [intOf]; omega
    · have hin' : ¬ (i : Int) < (n : Int) := by omega
      have HQ : Hid ((acc, 0, 0) = q) := Lib.hid ((lexGo_end k acc (by rw [HLN.out]; omega)).symm.trans HGO.out)
      go_wp2_with fail
      go_ret3
      have h := HQ.out
      subst h
      exact ⟨_, rfl, Kd.R_lower HI.out.own HB04.out.size, HB04.out.trans (HI.out.bl.mono HB04.out.size)⟩
def lex_Lex.f (a0 : ByteArray) : Option (List Tk × Int × Int) := some (lexL a0)
theorem lex_Lex.calls (a0 : ByteArray) (r1 : List Tk) (r2 r3 : Int) (w : World) (h : lex_Lex.f a0 = some (r1, r2, r3)) (hT : TabA w) :
    Calls Tryd.prog 11 #[.string a0] w fun e w' => ∃ v0_ : Value, e = .returned (.tuple #[v0_, .int .i64 r2, .int .i64 r3]) ∧ Kd.R k32 32 w' w.heap.size (fun _ => True) v0_ r1 ∧ Below w.heap.size w w' := by
  have h' : lexL a0 = (r1, r2, r3) := Option.some.inj h
  by_cases hs : 2000 < a0.size
  · rw [lexL, if_pos hs] at h'
    have := lex_big a0 w hs
    rw [h'] at this
    exact this
  · rw [lexL, if_neg hs] at h'
    exact lex_walk a0 _ rfl _ (by omega) h' w hT
end Go.Proofs.YtniapbinamnmpaaDoor.L
