/- Contracts and plain lemmas of the functions that the law reaches, part 11. -/
import Derived.Test.YtniapbinamnmpaaDoorM2
import Derived.Test.YtniapbinamnmpaaDoorM7
import Derived.Test.YtniapbinamnmpaaDoorM8
import Derived.Test.YtniapbinamnmpaaDoorM10
namespace Go.Proofs.YtniapbinamnmpaaDoor.L
set_option linter.unusedVariables false
set_option linter.unusedSimpArgs false
open Go.RowKit Go.Proofs.YtniapbinamnmpaaDoorW.PrintWords Go.Proofs.YtniapbinamnmpaaDoorW.PrintLast Go.Proofs.YtniapbinamnmpaaDoorW.PrintMore
theorem oneR_ok (s : ByteArray) (l : List UInt8) (hl : s.data.toList = l) (i : Nat) (w : World) (hs : s.size ≤ 100000) (hi : i < s.size) :
    Calls Tryd.prog 12 #[.string s, .int .i64 i] w (OneP w l i) := by
  have hll : i < l.length := by rw [← hl, ← sz_list]; exact hi
  have hd := List.drop_eq_getElem_cons hll
  by_cases h1 : letB (l[i]) = true
  · exact oneR_letter s l hl i _ _ hd w hs h1
  · have h1' := Bool.eq_false_iff.2 h1
    by_cases h2 : digB (l[i]) = true
    · exact oneR_digit s l hl i _ _ hd w hs h1' h2
    · have h2' := Bool.eq_false_iff.2 h2
      by_cases h3 : l[i] = 39
      · exact oneR_text s l hl i _ _ hd w hs h1' h2' h3
      · by_cases h4 : l[i] = 36
        · exact oneR_par s l hl i _ _ hd w hs h1' h2' h4
        · exact oneR_sign s l hl i _ _ hd w hs h1' h2' h3 h4
def toR (t : Tk) : S31 := ⟨t.f0, t.f1, t.f2, t.f3⟩
theorem infoTkR : (Tryd.prog.info? 31).map (fun i => (i.zero, i.size, i.bytes)) = some (some (.agg (tkC 0 0 0 ⟨#[]⟩)), 4, 40) := by kernel_rfl
structure LInvR (w4 : World) (acc : List Tk) (u : Value) (w : World) : Prop where
  bl : Below w4.heap.size w4 w
  own : Kd.R k31 31 w w4.heap.size (fun _ => True) u (acc.map toR)
  le : acc.length ≤ 400
theorem LInvR.later {w4 w w' : World} {acc : List Tk} {u : Value} (h : LInvR w4 acc u w) (hb : Below w.heap.size w w') : LInvR w4 acc u w' :=
  ⟨h.bl.trans (hb.mono h.bl.size), Kd.R_below h.own hb, h.le⟩
def LexR (w : World) (q : List Tk × Int × Int) (e : Ending) (w' : World) : Prop :=
  ∃ v : Value, e = .returned (.tuple #[v, .int .i64 q.2.1, .int .i64 q.2.2]) ∧ Kd.R k31 31 w' w.heap.size (fun _ => True) v (q.1.map toR) ∧ Below w.heap.size w w'
set_option maxHeartbeats 8000000 in
set_option maxRecDepth 100000 in
theorem lexR_big (s : ByteArray) (w : World) (hs : 2000 < s.size) :
    Calls Tryd.prog 10 #[.string s] w (LexR w ([], 5, 0)) := by
  obtain ⟨n, hn⟩ : ∃ n, s.size = n := ⟨_, rfl⟩
  have hbig : (2000 : Int) < (n : Int) := by omega
  go_enter Tryd.func10, Tryd.ntmps10
  go_wp2_with fail
  go_ret3
  exact ⟨_, rfl, Kd.R_nil _ _ _ _ _, Below.refl _ _⟩
set_option maxHeartbeats 8000000 in
set_option maxRecDepth 100000 in
theorem lexR_walk (s : ByteArray) (l : List UInt8) (hl : s.data.toList = l) (q : List Tk × Int × Int) (hs : s.size ≤ 2000) (hq : lexGo (s.size + 1) l [] 0 = q) (w : World) :
    Calls Tryd.prog 10 #[.string s] w (LexR w q) := by
  obtain ⟨n, hn⟩ : ∃ n, s.size = n := ⟨_, rfl⟩
  rw [hn] at hq
  have hn2 : n ≤ 2000 := by omega
  have hbig : ¬ (2000 : Int) < (n : Int) := by omega
  have HQ := Lib.hid hq; have HL := Lib.hid hl
  have HLN : Hid (l.length = n) := Lib.hid (by rw [← hl, ← sz_list, hn])
  clear hq hl
  go_enter Tryd.func10, Tryd.ntmps10
  have HI0 : Hid (LInvR w [] (.slice none 0 0) w) := Lib.hid ⟨Below.refl _ _, Kd.R_nil _ _ _ _ _, Nat.zero_le _⟩
  go_upto_region 5 with fail
  go_loopw [5, 6] (fun v7 v8 wr => ∃ (i k : Nat) (acc : List Tk), v8 = .int .i64 i ∧ n < i + k ∧ Hid (lexGo k l acc i = q) ∧ Hid (LInvR w acc v7 wr)) (fun _ v _ => n - (intOf v).toNat)
  case atStart => exact ⟨0, n + 1, [], rfl, by omega, HQ, HI0⟩
  case round =>
    clear HQ HI0
    obtain ⟨i, k, acc, rfl, hik, HGO, HI⟩ := hrel
    obtain ⟨A5, c5, rfl, -, -⟩ := Kd.R_reads HI.out.own
    have HML : Hid ((acc.map toR).length = acc.length) := Lib.hid (List.length_map _)
    rw [HML.out] at HI ⊢
    by_cases hlt : i < n
    · have hi : i < s.size := by omega
      obtain ⟨k, rfl⟩ : ∃ j, k = j + 1 := ⟨k - 1, by omega⟩
      obtain ⟨c, hc⟩ : ∃ c, s[i] = c := ⟨_, rfl⟩
      have HLI : Hid (l[i]? = some c) := by
        have h1 := byte_at s l HL.out i hi
        have h2 : i < l.length := by rw [HLN.out]; exact hlt
        rw [hc] at h1
        rw [h1, List.getElem?_eq_getElem h2]
        exact Lib.hid (by simp [h2])
      have hi0 : (0 : Int) ≤ (i : Int) := by omega
      have hin' : (i : Int) < (n : Int) := by omega
      have hw1 : IntKind.i64.wrap ((i : Int) + 1) = (i : Int) + 1 := IntWalk.i64_in _ (by omega)
      have hbyte : ∀ (k : UInt8), ((c.toNat : Int) == (k.toNat : Int)) = decide (c = k) := fun k => by
        rw [Bool.eq_iff_iff, beq_iff_eq, decide_eq_true_eq]
        exact ⟨fun h => UInt8.toNat_inj.1 (by omega), fun h => by rw [h]⟩
      have HBY := Lib.hid hbyte; clear hbyte
      by_cases h32 : c = 32
      · have b32 : ((c.toNat : Int) == 32) = true := (HBY.out 32).trans (decide_eq_true h32)
        have HG2 : Hid (lexGo k l acc (i + 1) = q) := Lib.hid ((lexGo_blank HLI.out (by rw [h32]; rfl)).symm.trans HGO.out)
        clear h32
        go_wp2_with fail
        go_roundw
        case rel => exact ⟨i + 1, k, acc, by go_num, by omega, HG2, HI⟩
        case measure => simp [intOf]; omega
      · have b32 : ((c.toNat : Int) == 32) = false := (HBY.out 32).trans (decide_eq_false h32)
        by_cases h9 : c = 9
        · have b9 : ((c.toNat : Int) == 9) = true := (HBY.out 9).trans (decide_eq_true h9)
          have HG2 : Hid (lexGo k l acc (i + 1) = q) := Lib.hid ((lexGo_blank HLI.out (by rw [h9]; rfl)).symm.trans HGO.out)
          clear h9
          go_wp2_with fail
          go_roundw
          case rel => exact ⟨i + 1, k, acc, by go_num, by omega, HG2, HI⟩
          case measure => simp [intOf]; omega
        · have b9 : ((c.toNat : Int) == 9) = false := (HBY.out 9).trans (decide_eq_false h9)
          by_cases h10 : c = 10
          · have b10 : ((c.toNat : Int) == 10) = true := (HBY.out 10).trans (decide_eq_true h10)
            have HG2 : Hid (lexGo k l acc (i + 1) = q) := Lib.hid ((lexGo_blank HLI.out (by rw [h10]; rfl)).symm.trans HGO.out)
            clear h10
            go_wp2_with fail
            go_roundw
            case rel => exact ⟨i + 1, k, acc, by go_num, by omega, HG2, HI⟩
            case measure => simp [intOf]; omega
          · have b10 : ((c.toNat : Int) == 10) = false := (HBY.out 10).trans (decide_eq_false h10)
            by_cases h13 : c = 13
            · have b13 : ((c.toNat : Int) == 13) = true := (HBY.out 13).trans (decide_eq_true h13)
              have HG2 : Hid (lexGo k l acc (i + 1) = q) := Lib.hid ((lexGo_blank HLI.out (by rw [h13]; rfl)).symm.trans HGO.out)
              clear h13
              go_wp2_with fail
              go_roundw
              case rel => exact ⟨i + 1, k, acc, by go_num, by omega, HG2, HI⟩
              case measure => simp [intOf]; omega
            · have b13 : ((c.toNat : Int) == 13) = false := (HBY.out 13).trans (decide_eq_false h13)
              have HBL : Hid (blankB c = false) := by show _ = _; unfold blankB; simp [h32, h9, h10, h13]
              clear h32 h9 h10 h13
              have HONE := Lib.hid (oneR_ok s l HL.out i wr (by omega) hi)
              have HR := Lib.hid (one_right l i)
              cases h1 : oneL l i with
              | inl p =>
                obtain ⟨er, p⟩ := p
                have HC : Hid (Calls Tryd.prog 12 #[.string s, .int .i64 i] wr fun e_ w' => (∃ (x0 x1 x2 : Int) (x3 : ByteArray), e_ = .returned (.tuple #[.agg #[.int .i64 x0, .int .i64 x1, .int .i64 x2, .string x3], .int .i64 0, .int .i64 er, .int .i64 p])) ∧ Below wr.heap.size wr w') := by
                  refine Lib.hid (HONE.out.mono ?_)
                  rintro e_ w' ⟨h2, h3⟩
                  rw [h1] at h2
                  exact ⟨h2, h3⟩
                clear HONE
                rw [h1] at HR
                have H1 := Lib.hid h1
                clear h1
                go_upto_region 9 with (first | (go_at_call 12; refine HC.out.mono ?_; rintro e_ w6 ⟨⟨x0, x1, x2, x3, rfl⟩, hb6⟩; have HB6 := Lib.hid hb6; clear hb6) | ((with_reducible refine gate_dst (N := 7) rfl ?_); refine box_event rfl (N := 7) rfl (cs := #[.int .i64 0, .int .i64 0, .int .i64 0, .string ⟨#[]⟩]) (t := 31) (by first | rfl | (go_simp; done) | (go_simp; rfl)) ?_; intro vb hgg w7 hbvb hBvb; have hvb : w6.heap.size ≤ vb := (by omega); have hd0 : w7.cell? ⟨vb, 0, none⟩ = some (.int .i64 0) := ((bkC hbvb 0).trans rfl); have he0 := bkF hbvb 0; have hd1 : w7.cell? ⟨vb, 1, none⟩ = some (.int .i64 0) := ((bkC hbvb 1).trans rfl); have he1 := bkF hbvb 1; have hd2 : w7.cell? ⟨vb, 2, none⟩ = some (.int .i64 0) := ((bkC hbvb 2).trans rfl); have he2 := bkF hbvb 2; have hd3 : w7.cell? ⟨vb, 3, none⟩ = some (.string ⟨#[]⟩) := ((bkC hbvb 3).trans rfl); have he3 := bkF hbvb 3; clear hgg))
                have hv8 := tk_putT hbvb (x0) (x1) (x2) (x3)
                have HK8 := Lib.hid (HI.out.later (tk_belowT (HB6.out.trans (hBvb.mono HB6.out.size)) (Nat.le_trans HB6.out.size hvb) (x0) (x1) (x2) (x3)))
                clear hd0 hd1 hd2 hd3 he0 he1 he2 he3 hbvb hBvb HB6 HC hvb
                generalize ((((w7.setCell ⟨vb, 0, none⟩ (.int .i64 (x0))).setCell ⟨vb, 1, none⟩ (.int .i64 (x1))).setCell ⟨vb, 2, none⟩ (.int .i64 (x2))).setCell ⟨vb, 3, none⟩ (.string (x3))) = w8 at hv8 HK8 ⊢
                have he : (er != 0) = true := bne_iff_ne.mpr (by have h : er = 5 ∨ er = 6 := HR.out; omega)
                have he2 : (er == 0) = false := beq_eq_false_iff_ne.mpr (by have h : er = 5 ∨ er = 6 := HR.out; omega)
                have HQ : Hid (([], er, p) = q) := Lib.hid ((lexGo_inl HLI.out HBL.out H1.out).symm.trans HGO.out)
                go_wp2_with fail
                go_ret3
                have h := HQ.out
                subst h
                exact ⟨_, rfl, Kd.R_nil _ _ _ _ _, HK8.out.bl⟩
              | inr p =>
                obtain ⟨kd, v, x, E⟩ := p
                have HC : Hid (Calls Tryd.prog 12 #[.string s, .int .i64 i] wr fun e_ w' => e_ = .returned (.tuple #[.agg #[.int .i64 kd, .int .i64 v, .int .i64 i, .string ⟨x.toArray⟩], .int .i64 E, .int .i64 0, .int .i64 0]) ∧ Below wr.heap.size wr w') := by
                  refine Lib.hid (HONE.out.mono ?_)
                  rintro e_ w' ⟨h2, h3⟩
                  rw [h1] at h2
                  exact ⟨h2, h3⟩
                clear HONE
                rw [h1] at HR
                have H1 := Lib.hid h1
                clear h1
                go_upto_region 9 with (first | (go_at_call 12; refine HC.out.mono ?_; rintro e_ w6 ⟨rfl, hb6⟩; have HB6 := Lib.hid hb6; clear hb6) | ((with_reducible refine gate_dst (N := 7) rfl ?_); refine box_event rfl (N := 7) rfl (cs := #[.int .i64 0, .int .i64 0, .int .i64 0, .string ⟨#[]⟩]) (t := 31) (by first | rfl | (go_simp; done) | (go_simp; rfl)) ?_; intro vb hgg w7 hbvb hBvb; have hvb : w6.heap.size ≤ vb := (by omega); have hd0 : w7.cell? ⟨vb, 0, none⟩ = some (.int .i64 0) := ((bkC hbvb 0).trans rfl); have he0 := bkF hbvb 0; have hd1 : w7.cell? ⟨vb, 1, none⟩ = some (.int .i64 0) := ((bkC hbvb 1).trans rfl); have he1 := bkF hbvb 1; have hd2 : w7.cell? ⟨vb, 2, none⟩ = some (.int .i64 0) := ((bkC hbvb 2).trans rfl); have he2 := bkF hbvb 2; have hd3 : w7.cell? ⟨vb, 3, none⟩ = some (.string ⟨#[]⟩) := ((bkC hbvb 3).trans rfl); have he3 := bkF hbvb 3; clear hgg))
                have hv8 := tk_putT hbvb (kd) (v) (i) (⟨x.toArray⟩)
                have HK8 := Lib.hid (HI.out.later (tk_belowT (HB6.out.trans (hBvb.mono HB6.out.size)) (Nat.le_trans HB6.out.size hvb) (kd) (v) (i) (⟨x.toArray⟩)))
                clear hd0 hd1 hd2 hd3 he0 he1 he2 he3 hbvb hBvb HB6 HC hvb
                generalize ((((w7.setCell ⟨vb, 0, none⟩ (.int .i64 (kd))).setCell ⟨vb, 1, none⟩ (.int .i64 (v))).setCell ⟨vb, 2, none⟩ (.int .i64 (i))).setCell ⟨vb, 3, none⟩ (.string (⟨x.toArray⟩))) = w8 at hv8 HK8 ⊢
                have HG2 := Lib.hid ((lexGo_inr (k := k) (acc := acc) HLI.out HBL.out H1.out).symm.trans HGO.out)
                have hE : i < E := HR.out
                by_cases h4 : acc.length = 400
                · have b4 : ((acc.length : Int) == 400) = true := beq_iff_eq.mpr (by omega)
                  have HQ : Hid (([], 5, (i : Int)) = q) := by have h := HG2.out; rw [if_pos h4] at h; exact Lib.hid h
                  clear h4
                  go_wp2_with fail
                  go_ret3
                  have h := HQ.out
                  subst h
                  exact ⟨_, rfl, Kd.R_nil _ _ _ _ _, HK8.out.bl⟩
                · have b4 : ((acc.length : Int) == 400) = false := beq_eq_false_iff_ne.mpr (by omega)
                  have HG3 : Hid (lexGo k l (acc ++ [⟨kd, v, (i : Int), ⟨x.toArray⟩⟩]) E = q) := by have h := HG2.out; rw [if_neg h4] at h; exact Lib.hid h
                  have hal : acc.length < 400 := by have := HK8.out.le; omega
                  clear h4 HG2
                  have hd0 : w8.cell? ⟨vb, 0, none⟩ = some (.int .i64 kd) := ((bkC hv8 0).trans rfl)
                  have hd1 : w8.cell? ⟨vb, 1, none⟩ = some (.int .i64 v) := ((bkC hv8 1).trans rfl)
                  have hd2 : w8.cell? ⟨vb, 2, none⟩ = some (.int .i64 i) := ((bkC hv8 2).trans rfl)
                  have hd3 : w8.cell? ⟨vb, 3, none⟩ = some (.string ⟨x.toArray⟩) := ((bkC hv8 3).trans rfl)
                  have HO8 := Lib.hid HK8.out.own
                  clear hv8
                  go_wp2_with ((with_reducible refine gate_builtin (b := .append) (xs := #[.tmp 62, .tmp 64]) rfl ?_); at_builtin; refine Kd.R_append k31 (w0 := w) w.heap.size rfl (.tmp 62) (.tmp 64) 23 31 (.agg (tkC 0 0 0 ⟨#[]⟩)) 40 rfl Tryd.underlying23 infoTkR rfl (by decide) (by omega) (.slice A5 acc.length c5) (acc.map toR) (toR ⟨kd, v, (i : Int), ⟨x.toArray⟩⟩) [.int .i64 kd, .int .i64 v, .int .i64 i, .string ⟨x.toArray⟩] (fun _ => True) (fun _ => False) rfl rfl ?aP (fun _ hk => hk.elim) ?aF ?aO ?aB ?aS ?aL ?_; (case aP => exact k31_mkM _ _ _ (toR ⟨kd, v, (i : Int), ⟨x.toArray⟩⟩)); (case aB => exact HK8.out.bl); (case aF => exact (fun _ _ => trivial)); (case aO => exact HO8.out); (case aS => exact HK8.out.bl.size); (case aL => rw [HML.out]; omega); intro v1 w9 ho hb hg hat; have HO9 := Lib.hid ho; have HB9 := Lib.hid hb; clear ho hb hg hat)
                  go_roundw
                  case rel => exact ⟨E, k, acc ++ [⟨kd, v, (i : Int), ⟨x.toArray⟩⟩], by go_num, by omega, HG3, Lib.hid ⟨HB9.out, by rw [List.map_append]; exact HO9.out, by simp; omega⟩⟩
                  case measure => simp [intOf]; omega
    · have hin' : ¬ (i : Int) < (n : Int) := by omega
      have HQ : Hid ((acc, 0, 0) = q) := Lib.hid ((lexGo_end k acc (by rw [HLN.out]; omega)).symm.trans HGO.out)
      go_wp2_with fail
      go_ret3
      have h := HQ.out
      subst h
      exact ⟨_, rfl, HI.out.own, HI.out.bl⟩
def q07_Lex.f (a0 : ByteArray) : Option (List S31 × Int × Int) := some ((lexL a0).1.map toR, (lexL a0).2)
theorem q07_Lex.calls (a0 : ByteArray) (r1 : List S31) (r2 r3 : Int) (w : World) (h : q07_Lex.f a0 = some (r1, r2, r3)) :
    Calls Tryd.prog 10 #[.string a0] w fun e w' => ∃ v0_ : Value, e = .returned (.tuple #[v0_, .int .i64 r2, .int .i64 r3]) ∧ Kd.R k31 31 w' w.heap.size (fun _ => True) v0_ r1 ∧ Below w.heap.size w w' := by
  have h' := Option.some.inj h
  obtain ⟨q, hq⟩ : ∃ q, lexL a0 = q := ⟨_, rfl⟩
  obtain ⟨q1, q2, q3⟩ := q
  rw [hq] at h'
  obtain ⟨h1, h2⟩ := Prod.mk.inj h'
  obtain ⟨h2, h3⟩ := Prod.mk.inj h2
  dsimp only at h1 h2 h3
  subst h1 h2 h3
  by_cases hs : 2000 < a0.size
  · rw [lexL, if_pos hs] at hq
    have := lexR_big a0 w hs
    rw [hq] at this
    exact this
  · rw [lexL, if_neg hs] at hq
    exact lexR_walk a0 _ rfl _ (by omega) hq w
end Go.Proofs.YtniapbinamnmpaaDoor.L
namespace Go.Proofs.YtniapbinamnmpaaDoor.L
open Go.RowKit Go.Proofs.YtniapbinamnmpaaDoorW.PrintWords Go.Proofs.YtniapbinamnmpaaDoorW.PrintLast Go.Proofs.YtniapbinamnmpaaDoorW.PrintMore
attribute [local go_sem] max2_int min2_int max_two min_two max_three min_three max_four min_four   -- for this text's walks alone
set_option linter.unusedVariables false
set_option linter.unusedSimpArgs false
attribute [local go_sem high] eqA32
mutual
def w07_LexReads.l0 : Nat → ByteArray → Bool → List (S31) → Int → Int → Int → Option (Bool)
 | 0, _, _, _, _, _, _ => none
 | k + 1, x0, x3, x4, x5, x6, x7 => if x7 < 2 then ((lex_Lex.f x0).bind fun bt136 => (if (bt136.1.length : Int) = (x4.length : Int) then (if bt136.2.1 = x5 then (w07_LexReads.j1 k x0 x3 x4 x5 x6 x7 bt136.1 (bt136.2.2 != x6)) else (w07_LexReads.j1 k x0 x3 x4 x5 x6 x7 bt136.1 true)) else (w07_LexReads.j1 k x0 x3 x4 x5 x6 x7 bt136.1 true))) else (some x3)
def w07_LexReads.j1 : Nat → ByteArray → Bool → List (S31) → Int → Int → Int → List (S32) → Bool → Option (Bool)
 | 0, _, _, _, _, _, _, _, _ => none
 | k + 1, x0, x3, x4, x5, x6, x7, x8, x44 => if x44 = true then (some false) else (w07_LexReads.l1 k x0 x3 x4 x5 x6 x7 x8 0)
def w07_LexReads.l1 : Nat → ByteArray → Bool → List (S31) → Int → Int → Int → List (S32) → Int → Option (Bool)
 | 0, _, _, _, _, _, _, _, _ => none
 | k + 1, x0, x3, x4, x5, x6, x7, x8, x11 => if x11 < (x8.length : Int) then (if 0 ≤ x11 then (if x11 < (x4.length : Int) then (if (!(((rd_T32 x8 x11).f0) == ((rd_T31 x4 x11).f0)) || (!(((rd_T32 x8 x11).f1) == ((rd_T31 x4 x11).f1)) || (!(((rd_T32 x8 x11).f2) == ((rd_T31 x4 x11).f2)) || (!((((rd_T32 x8 x11).f3).toList) == (((rd_T31 x4 x11).f3).toList)))))) = true then (some false) else (w07_LexReads.l1 k x0 x3 x4 x5 x6 x7 (x8.set (x11 : Int).toNat (⟨0, 0, 0, (⟨#[]⟩ : ByteArray)⟩ : S32)) (wrap64 (x11 + 1)))) else (none)) else (none)) else (w07_LexReads.l0 k x0 x3 x4 x5 x6 (wrap64 (x7 + 1)))
end
def w07_LexReads.f (k : Nat) (a0 : ByteArray) : Option (Bool) := (w07_examples.f).bind fun t130 => ((q07_Lex.f a0).bind fun bt131 => (w07_LexReads.l0 k a0 t130 bt131.1 bt131.2.1 bt131.2.2 0))
set_option maxHeartbeats 8000000 in
set_option maxRecDepth 100000 in
theorem w07_LexReads.calls (k : Nat) (a0 : ByteArray) (r : Bool) (w : World) (h : w07_LexReads.f k a0 = some r) (hT : TabA w) :
  Calls Tryd.prog 3 #[.string a0] w fun e w' => e = .returned (.bool r) ∧ Below w.heap.size w w' := by
 have HT := Asd.mk hT
 clear hT
 have hu31 := Tryd.underlying31
 have hu32 := Tryd.underlying32
 have HB := Asd.mk (Below.refl w.heap.size w)
 have H : ((w07_examples.f).bind fun t130 => ((q07_Lex.f a0).bind fun bt131 => (w07_LexReads.l0 k a0 t130 bt131.1 bt131.2.1 bt131.2.2 0))) = some r := h
 clear h
 replace H := Option.bind_eq_some_iff.mp H
 obtain ⟨t130, A20, H⟩ := H
 replace H : ((q07_Lex.f a0).bind fun bt131 => (w07_LexReads.l0 k a0 t130 bt131.1 bt131.2.1 bt131.2.2 0)) = some r := H
 have A2 := Asd.mk A20
 clear A20
 replace H := Option.bind_eq_some_iff.mp H
 obtain ⟨⟨t131, t132, t133⟩, A30, H⟩ := H
 replace H : (w07_LexReads.l0 k a0 t130 t131 t132 t133 0) = some r := H
 have A3 := Asd.mk A30
 clear A30
 have H' := Asd.mk H
 clear H
 go_enter Tryd.func3, Tryd.ntmps3
 go_wp2_with (first | (go_at_call 9; (with_reducible refine (w07_examples.calls  t130 _ A2.out (tab_at HT.out (by repeat (first | (with_reducible first | exact HB.out | apply blA | apply pbN | apply blD) | exact HB.out)))).mono ?_); rintro e w4 ⟨rfl, hb⟩; replace HB := Asd.mk (bS hb HB.out); clear hb) | (go_at_call 10; (with_reducible refine (q07_Lex.calls a0 t131 t132 t133 _ A3.out).mono ?_); rintro e w5 ⟨v134, rfl, ho0, hb⟩; have HO135 := Asd.mk (Kd.R_lower ho0 (below_size (by repeat (first | (with_reducible first | exact HB.out | apply blA | apply pbN | apply blD) | exact HB.out)))); replace HB := Asd.mk (bS hb HB.out); (try clear hb); (try clear hb2); (try clear hk); (try clear hi); (try clear ho0)))
 repeat (go_quiet (first | (go_at_call 9; (with_reducible refine (w07_examples.calls  t130 _ A2.out (tab_at HT.out (by repeat (first | (with_reducible first | exact HB.out | apply blA | apply pbN | apply blD) | exact HB.out)))).mono ?_); rintro e w4 ⟨rfl, hb⟩; replace HB := Asd.mk (bS hb HB.out); clear hb) | (go_at_call 10; (with_reducible refine (q07_Lex.calls a0 t131 t132 t133 _ A3.out).mono ?_); rintro e w5 ⟨v134, rfl, ho0, hb⟩; have HO135 := Asd.mk (Kd.R_lower ho0 (below_size (by repeat (first | (with_reducible first | exact HB.out | apply blA | apply pbN | apply blD) | exact HB.out)))); replace HB := Asd.mk (bS hb HB.out); (try clear hb); (try clear hb2); (try clear hk); (try clear hi); (try clear ho0))); try go_wp2_with (first | (go_at_call 9; (with_reducible refine (w07_examples.calls  t130 _ A2.out (tab_at HT.out (by repeat (first | (with_reducible first | exact HB.out | apply blA | apply pbN | apply blD) | exact HB.out)))).mono ?_); rintro e w4 ⟨rfl, hb⟩; replace HB := Asd.mk (bS hb HB.out); clear hb) | (go_at_call 10; (with_reducible refine (q07_Lex.calls a0 t131 t132 t133 _ A3.out).mono ?_); rintro e w5 ⟨v134, rfl, ho0, hb⟩; have HO135 := Asd.mk (Kd.R_lower ho0 (below_size (by repeat (first | (with_reducible first | exact HB.out | apply blA | apply pbN | apply blD) | exact HB.out)))); replace HB := Asd.mk (bS hb HB.out); (try clear hb); (try clear hb2); (try clear hk); (try clear hi); (try clear ho0))))
 go_loopg [7] k (fun kq v7 w' => ∃ (x7_1 : Int), v7 = .int .i64 x7_1 ∧ Asd (w07_LexReads.l0 kq a0 t130 t131 t132 t133 x7_1 = some r) ∧ Asd (kq ≤ k) ∧ Asd (Kd.R k31 31 w' w.heap.size (fun _ => True) v134 t131) ∧ Asd (Below w.heap.size w w'))
 case atStart => exact ⟨(0), (by first | rfl | (simp; done) | (simp [*]; done)), H', ⟨Nat.le_refl _⟩, ⟨by (with_reducible repeat (first | apply Kd.R_alloc | apply Kd.R_drewN | apply Kd.R_drew)); exact HO135.out⟩, ⟨by repeat (first | (with_reducible first | exact HB.out | apply blA | apply pbN | apply blD) | exact HB.out)⟩⟩
 case round =>
  clear H'
  try clear p2
  try clear c3
  obtain ⟨x7_1, rfl, HA, HK1, HO_4, HB⟩ := hrel
  cases gk with
  | zero => exact absurd HA.out (by simp [w07_LexReads.l0])
  | succ k1 =>
   have H := HA.out
   clear HA
   simp only [w07_LexReads.l0] at H
   by_cases c6 : x7_1 < 2
   ·rw [if_pos c6] at H
    have c6b0 : decide (x7_1 < 2) = true := decide_eq_true c6
    clear c6
    replace H := Option.bind_eq_some_iff.mp H
    obtain ⟨⟨t136, t137, t138⟩, A70, H⟩ := H
    replace H : (if (t136.length : Int) = (t131.length : Int) then (if t137 = t132 then (w07_LexReads.j1 k1 a0 t130 t131 t132 t133 x7_1 t136 (t138 != t133)) else (w07_LexReads.j1 k1 a0 t130 t131 t132 t133 x7_1 t136 true)) else (w07_LexReads.j1 k1 a0 t130 t131 t132 t133 x7_1 t136 true)) = some r := H
    have A7 := Asd.mk A70
    clear A70
    have HC8 := Asd.mk H
    clear H
    go_upto_region 7 with (first | (go_at_call 11; (with_reducible refine (lex_Lex.calls a0 t136 t137 t138 _ A7.out (tab_at HT.out (by repeat (first | (with_reducible first | exact HB.out | apply blA | apply pbN | apply blD) | exact HB.out)))).mono ?_); rintro e w9 ⟨v139, rfl, ho0, hb⟩; have n0_ := Asd.mk (Kd.R_below (by (with_reducible repeat (first | apply Kd.R_alloc | apply Kd.R_drewN | apply Kd.R_drew)); exact HO_4.out) hb); have n1_ := Asd.mk (Kd.R_lower ho0 (below_size (by repeat (first | (with_reducible first | exact HB.out | apply blA | apply pbN | apply blD) | exact HB.out)))); have n2_ := Asd.mk (bS hb HB.out); clear HO_4; clear HB; have HO_4 := n0_; have HO140 := n1_; have HB := n2_; clear n0_ n1_ n2_; (try clear hb); (try clear hb2); (try clear hk); (try clear hi); (try clear ho0)))
    repeat (go_quiet (first | (go_at_call 11; (with_reducible refine (lex_Lex.calls a0 t136 t137 t138 _ A7.out (tab_at HT.out (by repeat (first | (with_reducible first | exact HB.out | apply blA | apply pbN | apply blD) | exact HB.out)))).mono ?_); rintro e w9 ⟨v139, rfl, ho0, hb⟩; have n0_ := Asd.mk (Kd.R_below (by (with_reducible repeat (first | apply Kd.R_alloc | apply Kd.R_drewN | apply Kd.R_drew)); exact HO_4.out) hb); have n1_ := Asd.mk (Kd.R_lower ho0 (below_size (by repeat (first | (with_reducible first | exact HB.out | apply blA | apply pbN | apply blD) | exact HB.out)))); have n2_ := Asd.mk (bS hb HB.out); clear HO_4; clear HB; have HO_4 := n0_; have HO140 := n1_; have HB := n2_; clear n0_ n1_ n2_; (try clear hb); (try clear hb2); (try clear hk); (try clear hi); (try clear ho0))); go_upto_region 7 with (first | (go_at_call 11; (with_reducible refine (lex_Lex.calls a0 t136 t137 t138 _ A7.out (tab_at HT.out (by repeat (first | (with_reducible first | exact HB.out | apply blA | apply pbN | apply blD) | exact HB.out)))).mono ?_); rintro e w9 ⟨v139, rfl, ho0, hb⟩; have n0_ := Asd.mk (Kd.R_below (by (with_reducible repeat (first | apply Kd.R_alloc | apply Kd.R_drewN | apply Kd.R_drew)); exact HO_4.out) hb); have n1_ := Asd.mk (Kd.R_lower ho0 (below_size (by repeat (first | (with_reducible first | exact HB.out | apply blA | apply pbN | apply blD) | exact HB.out)))); have n2_ := Asd.mk (bS hb HB.out); clear HO_4; clear HB; have HO_4 := n0_; have HO140 := n1_; have HB := n2_; clear n0_ n1_ n2_; (try clear hb); (try clear hb2); (try clear hk); (try clear hi); (try clear ho0))))
    (try simp only [Act.put, List.setIfInBounds_toArray, List.set_cons_zero, List.set_cons_succ])
    go_cut [44] (fun v44 wc => ∃ (kq : Nat) (x44_7 : Bool), v44 = .bool x44_7 ∧ Asd (w07_LexReads.j1 kq a0 t130 t131 t132 t133 x7_1 t136 x44_7 = some r) ∧ Asd (kq ≤ k1) ∧ Asd (Kd.R k31 31 wc w.heap.size (fun _ => True) v134 t131) ∧ Asd (Kd.R k32 32 wc w.heap.size (fun _ => True) v139 t136) ∧ Asd (Below w.heap.size w wc))
    case first =>
     have H := HC8.out
     clear HC8
     by_cases c10 : (t136.length : Int) = (t131.length : Int)
     ·rw [if_pos c10] at H
      have c10b0 : ((t136.length : Int) == (t131.length : Int)) = true := beq_iff_eq.mpr c10
      have c10b1 : ((t136.length : Int) != (t131.length : Int)) = false := bne_eq_false_iff_eq.mpr c10
      have c10b2 : (t136.length == t131.length) = true := by first | simpa using c10 | (simp at c10 ⊢; omega)
      clear c10
      (first | rw [c10b0] | (simp only [i64_w, i32_w]; rw [c10b0]) | skip)
      by_cases c11 : t137 = t132
      ·rw [if_pos c11] at H
       have c11b0 : (t137 == t132) = true := beq_iff_eq.mpr c11
       have c11b1 : (t137 != t132) = false := bne_eq_false_iff_eq.mpr c11
       clear c11
       have H' := Asd.mk H
       clear H
       obtain ⟨Ao12, co12, eo12⟩ := Kd.R_slice HO140.out
       subst eo12
       obtain ⟨Ao13, co13, eo13⟩ := Kd.R_slice HO_4.out
       subst eo13
       go_wp2
       repeat (go_quiet (fail); try go_wp2)
       go_meet
       case rel => exact ⟨_, ((t138 != t133)), (by first | rfl | (simp; done) | (simp [*]; done)), H', ⟨by have := HK1.out; first | omega | exact Nat.le_refl _⟩, ⟨by (with_reducible repeat (first | apply Kd.R_alloc | apply Kd.R_drewN | apply Kd.R_drew)); exact HO_4.out⟩, ⟨by (with_reducible repeat (first | apply Kd.R_alloc | apply Kd.R_drewN | apply Kd.R_drew)); exact HO140.out⟩, ⟨by repeat (first | (with_reducible first | exact HB.out | apply blA | apply pbN | apply blD) | exact HB.out)⟩⟩
      ·rw [if_neg c11] at H
       have c11b0 : (t137 == t132) = false := beq_eq_false_iff_ne.mpr c11
       have c11b1 : (t137 != t132) = true := bne_iff_ne.mpr c11
       have H' := Asd.mk H
       clear H
       obtain ⟨Ao14, co14, eo14⟩ := Kd.R_slice HO140.out
       subst eo14
       obtain ⟨Ao15, co15, eo15⟩ := Kd.R_slice HO_4.out
       subst eo15
       go_wp2
       repeat (go_quiet (fail); try go_wp2)
       go_meet
       case rel => exact ⟨_, (true), (by first | rfl | (simp; done) | (simp [*]; done)), H', ⟨by have := HK1.out; first | omega | exact Nat.le_refl _⟩, ⟨by (with_reducible repeat (first | apply Kd.R_alloc | apply Kd.R_drewN | apply Kd.R_drew)); exact HO_4.out⟩, ⟨by (with_reducible repeat (first | apply Kd.R_alloc | apply Kd.R_drewN | apply Kd.R_drew)); exact HO140.out⟩, ⟨by repeat (first | (with_reducible first | exact HB.out | apply blA | apply pbN | apply blD) | exact HB.out)⟩⟩
     ·rw [if_neg c10] at H
      have c10b0 : ((t136.length : Int) == (t131.length : Int)) = false := beq_eq_false_iff_ne.mpr c10
      have c10b1 : ((t136.length : Int) != (t131.length : Int)) = true := bne_iff_ne.mpr c10
      have c10b2 : (t136.length == t131.length) = false := by first | simpa using c10 | (simp at c10 ⊢; omega)
      (first | rw [c10b0] | (simp only [i64_w, i32_w]; rw [c10b0]) | skip)
      have H' := Asd.mk H
      clear H
      obtain ⟨Ao16, co16, eo16⟩ := Kd.R_slice HO140.out
      subst eo16
      obtain ⟨Ao17, co17, eo17⟩ := Kd.R_slice HO_4.out
      subst eo17
      go_wp2
      repeat (go_quiet (fail); try go_wp2)
      go_meet
      case rel => exact ⟨_, (true), (by first | rfl | (simp; done) | (simp [*]; done)), H', ⟨by have := HK1.out; first | omega | exact Nat.le_refl _⟩, ⟨by (with_reducible repeat (first | apply Kd.R_alloc | apply Kd.R_drewN | apply Kd.R_drew)); exact HO_4.out⟩, ⟨by (with_reducible repeat (first | apply Kd.R_alloc | apply Kd.R_drewN | apply Kd.R_drew)); exact HO140.out⟩, ⟨by repeat (first | (with_reducible first | exact HB.out | apply blA | apply pbN | apply blD) | exact HB.out)⟩⟩
    case rest =>
     clear HC8
     try clear c1
     try clear p2
     try clear c3
     try clear c6
     try clear c6b0
     try clear c10
     try clear c10b0
     try clear c10b1
     try clear c10b2
     try clear c11
     try clear c11b0
     try clear c11b1
     try clear p2
     obtain ⟨kq, x44_7, rfl, HA, HJ7, HO_4, HO_8, HB⟩ := hcut
     cases kq with
     | zero => exact absurd HA.out (by simp [w07_LexReads.j1])
     | succ kj7 =>
      have H := HA.out
      clear HA
      simp only [w07_LexReads.j1] at H
      by_cases c18 : x44_7 = true
      ·subst c18
       have H1 : (some false) = some r := by rw [if_pos rfl] at H; exact H
       clear H
       have H := H1
       clear H1
       obtain rfl := Option.some.inj H
       go_wp2
       repeat (go_quiet (fail); try go_wp2)
       go_ret
       exact ⟨by first | rfl | (simp [errW_none, errW_some] <;> rfl) | (simp [*, errW_none, errW_some] <;> rfl), by repeat (first | (with_reducible first | exact HB.out | apply blA | apply pbN | apply blD) | exact HB.out)⟩
      ·replace c18 := Bool.eq_false_iff.mpr c18
       subst c18
       have H1 : (w07_LexReads.l1 kj7 a0 t130 t131 t132 t133 x7_1 t136 0) = some r := by rw [if_neg (show ¬ (false = true) by decide)] at H; exact H
       clear H
       have H := H1
       clear H1
       have H' := Asd.mk H
       clear H
       go_wp2
       repeat (go_quiet (fail); try go_wp2)
       go_loopg [11] kj7 (fun kq v11 w' => ∃ (x8_3 : List (S32)) (x11_3 : Int), v11 = .int .i64 x11_3 ∧ Asd (w07_LexReads.l1 kq a0 t130 t131 t132 t133 x7_1 x8_3 x11_3 = some r) ∧ Asd (kq ≤ kj7) ∧ Asd (Kd.R k31 31 w' w.heap.size (fun _ => True) v134 t131) ∧ Asd (Kd.R k32 32 w' w.heap.size (fun _ => True) v139 x8_3) ∧ Asd (Below w.heap.size w w'))
       case atStart => exact ⟨(t136), (0), (by first | rfl | (simp; done) | (simp [*]; done)), H', ⟨Nat.le_refl _⟩, ⟨by (with_reducible repeat (first | apply Kd.R_alloc | apply Kd.R_drewN | apply Kd.R_drew)); exact HO_4.out⟩, ⟨by (with_reducible repeat (first | apply Kd.R_alloc | apply Kd.R_drewN | apply Kd.R_drew)); exact HO_8.out⟩, ⟨by repeat (first | (with_reducible first | exact HB.out | apply blA | apply pbN | apply blD) | exact HB.out)⟩⟩
       case round =>
        clear H'
        try clear c1
        try clear p2
        try clear c3
        try clear c6
        try clear c6b0
        try clear c10
        try clear c10b0
        try clear c10b1
        try clear c10b2
        try clear c11
        try clear c11b0
        try clear c11b1
        try clear c18
        try clear p2
        obtain ⟨x8_3, x11_3, rfl, HA, HK3, HO_4, HO_8, HB⟩ := hrel
        cases gk with
        | zero => exact absurd HA.out (by simp [w07_LexReads.l1])
        | succ k3 =>
         have H := HA.out
         clear HA
         simp only [w07_LexReads.l1] at H
         by_cases c19 : x11_3 < (x8_3.length : Int)
         ·rw [if_pos c19] at H
          have c19b0 : decide (x11_3 < (x8_3.length : Int)) = true := decide_eq_true c19
          clear c19
          by_cases c20 : 0 ≤ x11_3
          ·rw [if_pos c20] at H
           have c20b0 : decide (0 ≤ x11_3) = true := decide_eq_true c20
           clear c20
           by_cases c21 : x11_3 < (t131.length : Int)
           ·rw [if_pos c21] at H
            have c21b0 : decide (x11_3 < (t131.length : Int)) = true := decide_eq_true c21
            clear c21
            by_cases c22 : (!(((rd_T32 x8_3 x11_3).f0) == ((rd_T31 t131 x11_3).f0)) || (!(((rd_T32 x8_3 x11_3).f1) == ((rd_T31 t131 x11_3).f1)) || (!(((rd_T32 x8_3 x11_3).f2) == ((rd_T31 t131 x11_3).f2)) || (!((((rd_T32 x8_3 x11_3).f3).toList) == (((rd_T31 t131 x11_3).f3).toList)))))) = true
            ·rw [if_pos c22] at H
             have c22b0 : (!(((rd_T32 x8_3 x11_3).f0) == ((rd_T31 t131 x11_3).f0)) || (!(((rd_T32 x8_3 x11_3).f1) == ((rd_T31 t131 x11_3).f1)) || (!(((rd_T32 x8_3 x11_3).f2) == ((rd_T31 t131 x11_3).f2)) || (!((((rd_T32 x8_3 x11_3).f3).toList) == (((rd_T31 t131 x11_3).f3).toList)))))) = true := c22
             clear c22
             obtain rfl := Option.some.inj H
             obtain ⟨Ao23, co23, eo23⟩ := Kd.R_slice HO_8.out
             subst eo23
             obtain ⟨Ao24, co24, eo24⟩ := Kd.R_slice HO_4.out
             subst eo24
             have p141 : 0 ≤ (x11_3 : Int) := of_decide_eq_true (by first | (with_reducible assumption) | assumption)
             have q141 : x11_3 < (t131.length : Int) := of_decide_eq_true (by first | (with_reducible assumption) | assumption)
             obtain ⟨ad141, e141, hx141_0, hx141_1, hx141_2, hx141_3⟩ := at_T31 (Kd.R_reads' HO_4.out).2.2 x11_3 p141 q141
             cases e141
             replace p141 := eq_true p141
             replace q141 := eq_true q141
             go_wp2_with (first | ((with_reducible refine gate_dst (N := 12) rfl ?_); refine box_event rfl (N := 12) rfl (cs := #[.int .i64 0, .int .i64 0, .int .i64 0, .string (⟨#[]⟩ : ByteArray)]) (t := 31) (by first | (go_simp; done) | (go_simp; rfl)) ?_; intro gb142 hg w25 hbox hb; have n0_ := Asd.mk (Kd.R_below (Kd.R_elderB (by (with_reducible repeat (first | apply Kd.R_alloc | apply Kd.R_drewN | apply Kd.R_drew)); exact HO_4.out) gb142 (Nat.le_of_eq hg.symm)) hb); have n1_ := Asd.mk (Kd.R_below (by (with_reducible repeat (first | apply Kd.R_alloc | apply Kd.R_drewN | apply Kd.R_drew)); exact HO_8.out) hb); have n2_ := Asd.mk (bS hb HB.out); have n3_ := Asd.mk (hbox); have n4_ := Asd.mk (bZ hg HB.out); have n5_ := Asd.mk (bZ hg HB.out); clear HO_4; clear HO_8; clear HB; have HO_4 := n0_; have HO_8 := n1_; have HB := n2_; have BK142 := n3_; have GW142 := n4_; have GE142 := n5_; clear n0_ n1_ n2_ n3_ n4_ n5_; clear hb hbox hg; obtain ⟨hcz26_0, hcz26_1, hcz26_2, hcz26_3⟩ := bkC4 BK142.out; obtain ⟨hfz26_0, hfz26_1, hfz26_2, hfz26_3⟩ := bkF4 BK142.out; have p143 : 0 ≤ (x11_3 : Int) := of_decide_eq_true (by first | (with_reducible assumption) | assumption); have q143 : x11_3 < (x8_3.length : Int) := of_decide_eq_true (by first | (with_reducible assumption) | assumption); obtain ⟨ad143, e143, hx143_0, hx143_1, hx143_2, hx143_3⟩ := at_T32 (Kd.R_reads' HO_8.out).2.2 x11_3 p143 q143; cases e143; have hn143_0 : ad143.block ≠ gb142 := Kd.own_blk (by first | exact Kd.R_ne HO_8.out BK142.out (by decide) | exact Kd.R_away HO_8.out (fun _ hk => hk.2) | exact Kd.R_away HO_8.out (fun _ hk => hk.2.2)); have hn143_1 : ad143.block ≠ gb142 := Kd.own_blk (by first | exact Kd.R_ne HO_8.out BK142.out (by decide) | exact Kd.R_away HO_8.out (fun _ hk => hk.2) | exact Kd.R_away HO_8.out (fun _ hk => hk.2.2)); have hn143_2 : ad143.block ≠ gb142 := Kd.own_blk (by first | exact Kd.R_ne HO_8.out BK142.out (by decide) | exact Kd.R_away HO_8.out (fun _ hk => hk.2) | exact Kd.R_away HO_8.out (fun _ hk => hk.2.2)); have hn143_3 : ad143.block ≠ gb142 := Kd.own_blk (by first | exact Kd.R_ne HO_8.out BK142.out (by decide) | exact Kd.R_away HO_8.out (fun _ hk => hk.2) | exact Kd.R_away HO_8.out (fun _ hk => hk.2.2)); replace hx143_0 := (cell_far (p := ⟨gb142, 0, none⟩) (by first | (rw [add_block]; exact hn143_0) | (show (Addr.add _ _).block ≠ _; rw [add_block]; exact hn143_0) | exact hn143_0) (.int .i64 ((rd_T31 t131 x11_3).f0))).trans hx143_0; replace hx143_1 := (cell_far (p := ⟨gb142, 0, none⟩) (by first | (rw [add_block]; exact hn143_0) | (show (Addr.add _ _).block ≠ _; rw [add_block]; exact hn143_0) | exact hn143_0) (.int .i64 ((rd_T31 t131 x11_3).f0))).trans hx143_1; replace hx143_2 := (cell_far (p := ⟨gb142, 0, none⟩) (by first | (rw [add_block]; exact hn143_0) | (show (Addr.add _ _).block ≠ _; rw [add_block]; exact hn143_0) | exact hn143_0) (.int .i64 ((rd_T31 t131 x11_3).f0))).trans hx143_2; replace hx143_3 := (cell_far (p := ⟨gb142, 0, none⟩) (by first | (rw [add_block]; exact hn143_0) | (show (Addr.add _ _).block ≠ _; rw [add_block]; exact hn143_0) | exact hn143_0) (.int .i64 ((rd_T31 t131 x11_3).f0))).trans hx143_3; replace hx143_0 := (cell_far (p := ⟨gb142, 1, none⟩) (by first | (rw [add_block]; exact hn143_1) | (show (Addr.add _ _).block ≠ _; rw [add_block]; exact hn143_1) | exact hn143_1) (.int .i64 ((rd_T31 t131 x11_3).f1))).trans hx143_0; replace hx143_1 := (cell_far (p := ⟨gb142, 1, none⟩) (by first | (rw [add_block]; exact hn143_1) | (show (Addr.add _ _).block ≠ _; rw [add_block]; exact hn143_1) | exact hn143_1) (.int .i64 ((rd_T31 t131 x11_3).f1))).trans hx143_1; replace hx143_2 := (cell_far (p := ⟨gb142, 1, none⟩) (by first | (rw [add_block]; exact hn143_1) | (show (Addr.add _ _).block ≠ _; rw [add_block]; exact hn143_1) | exact hn143_1) (.int .i64 ((rd_T31 t131 x11_3).f1))).trans hx143_2; replace hx143_3 := (cell_far (p := ⟨gb142, 1, none⟩) (by first | (rw [add_block]; exact hn143_1) | (show (Addr.add _ _).block ≠ _; rw [add_block]; exact hn143_1) | exact hn143_1) (.int .i64 ((rd_T31 t131 x11_3).f1))).trans hx143_3; replace hx143_0 := (cell_far (p := ⟨gb142, 2, none⟩) (by first | (rw [add_block]; exact hn143_2) | (show (Addr.add _ _).block ≠ _; rw [add_block]; exact hn143_2) | exact hn143_2) (.int .i64 ((rd_T31 t131 x11_3).f2))).trans hx143_0; replace hx143_1 := (cell_far (p := ⟨gb142, 2, none⟩) (by first | (rw [add_block]; exact hn143_2) | (show (Addr.add _ _).block ≠ _; rw [add_block]; exact hn143_2) | exact hn143_2) (.int .i64 ((rd_T31 t131 x11_3).f2))).trans hx143_1; replace hx143_2 := (cell_far (p := ⟨gb142, 2, none⟩) (by first | (rw [add_block]; exact hn143_2) | (show (Addr.add _ _).block ≠ _; rw [add_block]; exact hn143_2) | exact hn143_2) (.int .i64 ((rd_T31 t131 x11_3).f2))).trans hx143_2; replace hx143_3 := (cell_far (p := ⟨gb142, 2, none⟩) (by first | (rw [add_block]; exact hn143_2) | (show (Addr.add _ _).block ≠ _; rw [add_block]; exact hn143_2) | exact hn143_2) (.int .i64 ((rd_T31 t131 x11_3).f2))).trans hx143_3; replace hx143_0 := (cell_far (p := ⟨gb142, 3, none⟩) (by first | (rw [add_block]; exact hn143_3) | (show (Addr.add _ _).block ≠ _; rw [add_block]; exact hn143_3) | exact hn143_3) (.string ((rd_T31 t131 x11_3).f3))).trans hx143_0; replace hx143_1 := (cell_far (p := ⟨gb142, 3, none⟩) (by first | (rw [add_block]; exact hn143_3) | (show (Addr.add _ _).block ≠ _; rw [add_block]; exact hn143_3) | exact hn143_3) (.string ((rd_T31 t131 x11_3).f3))).trans hx143_1; replace hx143_2 := (cell_far (p := ⟨gb142, 3, none⟩) (by first | (rw [add_block]; exact hn143_3) | (show (Addr.add _ _).block ≠ _; rw [add_block]; exact hn143_3) | exact hn143_3) (.string ((rd_T31 t131 x11_3).f3))).trans hx143_2; replace hx143_3 := (cell_far (p := ⟨gb142, 3, none⟩) (by first | (rw [add_block]; exact hn143_3) | (show (Addr.add _ _).block ≠ _; rw [add_block]; exact hn143_3) | exact hn143_3) (.string ((rd_T31 t131 x11_3).f3))).trans hx143_3; (try have hy143_0 := fun (n_ : Nat) => (show ((((((w25.drewN n_).setCell ⟨gb142, 0, none⟩ (.int .i64 ((rd_T31 t131 x11_3).f0))).setCell ⟨gb142, 1, none⟩ (.int .i64 ((rd_T31 t131 x11_3).f1))).setCell ⟨gb142, 2, none⟩ (.int .i64 ((rd_T31 t131 x11_3).f2))).setCell ⟨gb142, 3, none⟩ (.string ((rd_T31 t131 x11_3).f3)))).cell? _ = some _ from hx143_0)); (try have hy143_1 := fun (n_ : Nat) => (show ((((((w25.drewN n_).setCell ⟨gb142, 0, none⟩ (.int .i64 ((rd_T31 t131 x11_3).f0))).setCell ⟨gb142, 1, none⟩ (.int .i64 ((rd_T31 t131 x11_3).f1))).setCell ⟨gb142, 2, none⟩ (.int .i64 ((rd_T31 t131 x11_3).f2))).setCell ⟨gb142, 3, none⟩ (.string ((rd_T31 t131 x11_3).f3)))).cell? _ = some _ from hx143_1)); (try have hy143_2 := fun (n_ : Nat) => (show ((((((w25.drewN n_).setCell ⟨gb142, 0, none⟩ (.int .i64 ((rd_T31 t131 x11_3).f0))).setCell ⟨gb142, 1, none⟩ (.int .i64 ((rd_T31 t131 x11_3).f1))).setCell ⟨gb142, 2, none⟩ (.int .i64 ((rd_T31 t131 x11_3).f2))).setCell ⟨gb142, 3, none⟩ (.string ((rd_T31 t131 x11_3).f3)))).cell? _ = some _ from hx143_2)); (try have hy143_3 := fun (n_ : Nat) => (show ((((((w25.drewN n_).setCell ⟨gb142, 0, none⟩ (.int .i64 ((rd_T31 t131 x11_3).f0))).setCell ⟨gb142, 1, none⟩ (.int .i64 ((rd_T31 t131 x11_3).f1))).setCell ⟨gb142, 2, none⟩ (.int .i64 ((rd_T31 t131 x11_3).f2))).setCell ⟨gb142, 3, none⟩ (.string ((rd_T31 t131 x11_3).f3)))).cell? _ = some _ from hx143_3)); clear hn143_0; clear hn143_1; clear hn143_2; clear hn143_3; replace p143 := eq_true p143; replace q143 := eq_true q143))
             repeat (go_quiet (first | ((with_reducible refine gate_dst (N := 12) rfl ?_); refine box_event rfl (N := 12) rfl (cs := #[.int .i64 0, .int .i64 0, .int .i64 0, .string (⟨#[]⟩ : ByteArray)]) (t := 31) (by first | (go_simp; done) | (go_simp; rfl)) ?_; intro gb142 hg w25 hbox hb; have n0_ := Asd.mk (Kd.R_below (Kd.R_elderB (by (with_reducible repeat (first | apply Kd.R_alloc | apply Kd.R_drewN | apply Kd.R_drew)); exact HO_4.out) gb142 (Nat.le_of_eq hg.symm)) hb); have n1_ := Asd.mk (Kd.R_below (by (with_reducible repeat (first | apply Kd.R_alloc | apply Kd.R_drewN | apply Kd.R_drew)); exact HO_8.out) hb); have n2_ := Asd.mk (bS hb HB.out); have n3_ := Asd.mk (hbox); have n4_ := Asd.mk (bZ hg HB.out); have n5_ := Asd.mk (bZ hg HB.out); clear HO_4; clear HO_8; clear HB; have HO_4 := n0_; have HO_8 := n1_; have HB := n2_; have BK142 := n3_; have GW142 := n4_; have GE142 := n5_; clear n0_ n1_ n2_ n3_ n4_ n5_; clear hb hbox hg; obtain ⟨hcz26_0, hcz26_1, hcz26_2, hcz26_3⟩ := bkC4 BK142.out; obtain ⟨hfz26_0, hfz26_1, hfz26_2, hfz26_3⟩ := bkF4 BK142.out; have p143 : 0 ≤ (x11_3 : Int) := of_decide_eq_true (by first | (with_reducible assumption) | assumption); have q143 : x11_3 < (x8_3.length : Int) := of_decide_eq_true (by first | (with_reducible assumption) | assumption); obtain ⟨ad143, e143, hx143_0, hx143_1, hx143_2, hx143_3⟩ := at_T32 (Kd.R_reads' HO_8.out).2.2 x11_3 p143 q143; cases e143; have hn143_0 : ad143.block ≠ gb142 := Kd.own_blk (by first | exact Kd.R_ne HO_8.out BK142.out (by decide) | exact Kd.R_away HO_8.out (fun _ hk => hk.2) | exact Kd.R_away HO_8.out (fun _ hk => hk.2.2)); have hn143_1 : ad143.block ≠ gb142 := Kd.own_blk (by first | exact Kd.R_ne HO_8.out BK142.out (by decide) | exact Kd.R_away HO_8.out (fun _ hk => hk.2) | exact Kd.R_away HO_8.out (fun _ hk => hk.2.2)); have hn143_2 : ad143.block ≠ gb142 := Kd.own_blk (by first | exact Kd.R_ne HO_8.out BK142.out (by decide) | exact Kd.R_away HO_8.out (fun _ hk => hk.2) | exact Kd.R_away HO_8.out (fun _ hk => hk.2.2)); have hn143_3 : ad143.block ≠ gb142 := Kd.own_blk (by first | exact Kd.R_ne HO_8.out BK142.out (by decide) | exact Kd.R_away HO_8.out (fun _ hk => hk.2) | exact Kd.R_away HO_8.out (fun _ hk => hk.2.2)); replace hx143_0 := (cell_far (p := ⟨gb142, 0, none⟩) (by first | (rw [add_block]; exact hn143_0) | (show (Addr.add _ _).block ≠ _; rw [add_block]; exact hn143_0) | exact hn143_0) (.int .i64 ((rd_T31 t131 x11_3).f0))).trans hx143_0; replace hx143_1 := (cell_far (p := ⟨gb142, 0, none⟩) (by first | (rw [add_block]; exact hn143_0) | (show (Addr.add _ _).block ≠ _; rw [add_block]; exact hn143_0) | exact hn143_0) (.int .i64 ((rd_T31 t131 x11_3).f0))).trans hx143_1; replace hx143_2 := (cell_far (p := ⟨gb142, 0, none⟩) (by first | (rw [add_block]; exact hn143_0) | (show (Addr.add _ _).block ≠ _; rw [add_block]; exact hn143_0) | exact hn143_0) (.int .i64 ((rd_T31 t131 x11_3).f0))).trans hx143_2; replace hx143_3 := (cell_far (p := ⟨gb142, 0, none⟩) (by first | (rw [add_block]; exact hn143_0) | (show (Addr.add _ _).block ≠ _; rw [add_block]; exact hn143_0) | exact hn143_0) (.int .i64 ((rd_T31 t131 x11_3).f0))).trans hx143_3; replace hx143_0 := (cell_far (p := ⟨gb142, 1, none⟩) (by first | (rw [add_block]; exact hn143_1) | (show (Addr.add _ _).block ≠ _; rw [add_block]; exact hn143_1) | exact hn143_1) (.int .i64 ((rd_T31 t131 x11_3).f1))).trans hx143_0; replace hx143_1 := (cell_far (p := ⟨gb142, 1, none⟩) (by first | (rw [add_block]; exact hn143_1) | (show (Addr.add _ _).block ≠ _; rw [add_block]; exact hn143_1) | exact hn143_1) (.int .i64 ((rd_T31 t131 x11_3).f1))).trans hx143_1; replace hx143_2 := (cell_far (p := ⟨gb142, 1, none⟩) (by first | (rw [add_block]; exact hn143_1) | (show (Addr.add _ _).block ≠ _; rw [add_block]; exact hn143_1) | exact hn143_1) (.int .i64 ((rd_T31 t131 x11_3).f1))).trans hx143_2; replace hx143_3 := (cell_far (p := ⟨gb142, 1, none⟩) (by first | (rw [add_block]; exact hn143_1) | (show (Addr.add _ _).block ≠ _; rw [add_block]; exact hn143_1) | exact hn143_1) (.int .i64 ((rd_T31 t131 x11_3).f1))).trans hx143_3; replace hx143_0 := (cell_far (p := ⟨gb142, 2, none⟩) (by first | (rw [add_block]; exact hn143_2) | (show (Addr.add _ _).block ≠ _; rw [add_block]; exact hn143_2) | exact hn143_2) (.int .i64 ((rd_T31 t131 x11_3).f2))).trans hx143_0; replace hx143_1 := (cell_far (p := ⟨gb142, 2, none⟩) (by first | (rw [add_block]; exact hn143_2) | (show (Addr.add _ _).block ≠ _; rw [add_block]; exact hn143_2) | exact hn143_2) (.int .i64 ((rd_T31 t131 x11_3).f2))).trans hx143_1; replace hx143_2 := (cell_far (p := ⟨gb142, 2, none⟩) (by first | (rw [add_block]; exact hn143_2) | (show (Addr.add _ _).block ≠ _; rw [add_block]; exact hn143_2) | exact hn143_2) (.int .i64 ((rd_T31 t131 x11_3).f2))).trans hx143_2; replace hx143_3 := (cell_far (p := ⟨gb142, 2, none⟩) (by first | (rw [add_block]; exact hn143_2) | (show (Addr.add _ _).block ≠ _; rw [add_block]; exact hn143_2) | exact hn143_2) (.int .i64 ((rd_T31 t131 x11_3).f2))).trans hx143_3; replace hx143_0 := (cell_far (p := ⟨gb142, 3, none⟩) (by first | (rw [add_block]; exact hn143_3) | (show (Addr.add _ _).block ≠ _; rw [add_block]; exact hn143_3) | exact hn143_3) (.string ((rd_T31 t131 x11_3).f3))).trans hx143_0; replace hx143_1 := (cell_far (p := ⟨gb142, 3, none⟩) (by first | (rw [add_block]; exact hn143_3) | (show (Addr.add _ _).block ≠ _; rw [add_block]; exact hn143_3) | exact hn143_3) (.string ((rd_T31 t131 x11_3).f3))).trans hx143_1; replace hx143_2 := (cell_far (p := ⟨gb142, 3, none⟩) (by first | (rw [add_block]; exact hn143_3) | (show (Addr.add _ _).block ≠ _; rw [add_block]; exact hn143_3) | exact hn143_3) (.string ((rd_T31 t131 x11_3).f3))).trans hx143_2; replace hx143_3 := (cell_far (p := ⟨gb142, 3, none⟩) (by first | (rw [add_block]; exact hn143_3) | (show (Addr.add _ _).block ≠ _; rw [add_block]; exact hn143_3) | exact hn143_3) (.string ((rd_T31 t131 x11_3).f3))).trans hx143_3; (try have hy143_0 := fun (n_ : Nat) => (show ((((((w25.drewN n_).setCell ⟨gb142, 0, none⟩ (.int .i64 ((rd_T31 t131 x11_3).f0))).setCell ⟨gb142, 1, none⟩ (.int .i64 ((rd_T31 t131 x11_3).f1))).setCell ⟨gb142, 2, none⟩ (.int .i64 ((rd_T31 t131 x11_3).f2))).setCell ⟨gb142, 3, none⟩ (.string ((rd_T31 t131 x11_3).f3)))).cell? _ = some _ from hx143_0)); (try have hy143_1 := fun (n_ : Nat) => (show ((((((w25.drewN n_).setCell ⟨gb142, 0, none⟩ (.int .i64 ((rd_T31 t131 x11_3).f0))).setCell ⟨gb142, 1, none⟩ (.int .i64 ((rd_T31 t131 x11_3).f1))).setCell ⟨gb142, 2, none⟩ (.int .i64 ((rd_T31 t131 x11_3).f2))).setCell ⟨gb142, 3, none⟩ (.string ((rd_T31 t131 x11_3).f3)))).cell? _ = some _ from hx143_1)); (try have hy143_2 := fun (n_ : Nat) => (show ((((((w25.drewN n_).setCell ⟨gb142, 0, none⟩ (.int .i64 ((rd_T31 t131 x11_3).f0))).setCell ⟨gb142, 1, none⟩ (.int .i64 ((rd_T31 t131 x11_3).f1))).setCell ⟨gb142, 2, none⟩ (.int .i64 ((rd_T31 t131 x11_3).f2))).setCell ⟨gb142, 3, none⟩ (.string ((rd_T31 t131 x11_3).f3)))).cell? _ = some _ from hx143_2)); (try have hy143_3 := fun (n_ : Nat) => (show ((((((w25.drewN n_).setCell ⟨gb142, 0, none⟩ (.int .i64 ((rd_T31 t131 x11_3).f0))).setCell ⟨gb142, 1, none⟩ (.int .i64 ((rd_T31 t131 x11_3).f1))).setCell ⟨gb142, 2, none⟩ (.int .i64 ((rd_T31 t131 x11_3).f2))).setCell ⟨gb142, 3, none⟩ (.string ((rd_T31 t131 x11_3).f3)))).cell? _ = some _ from hx143_3)); clear hn143_0; clear hn143_1; clear hn143_2; clear hn143_3; replace p143 := eq_true p143; replace q143 := eq_true q143)); try go_wp2_with (first | ((with_reducible refine gate_dst (N := 12) rfl ?_); refine box_event rfl (N := 12) rfl (cs := #[.int .i64 0, .int .i64 0, .int .i64 0, .string (⟨#[]⟩ : ByteArray)]) (t := 31) (by first | (go_simp; done) | (go_simp; rfl)) ?_; intro gb142 hg w25 hbox hb; have n0_ := Asd.mk (Kd.R_below (Kd.R_elderB (by (with_reducible repeat (first | apply Kd.R_alloc | apply Kd.R_drewN | apply Kd.R_drew)); exact HO_4.out) gb142 (Nat.le_of_eq hg.symm)) hb); have n1_ := Asd.mk (Kd.R_below (by (with_reducible repeat (first | apply Kd.R_alloc | apply Kd.R_drewN | apply Kd.R_drew)); exact HO_8.out) hb); have n2_ := Asd.mk (bS hb HB.out); have n3_ := Asd.mk (hbox); have n4_ := Asd.mk (bZ hg HB.out); have n5_ := Asd.mk (bZ hg HB.out); clear HO_4; clear HO_8; clear HB; have HO_4 := n0_; have HO_8 := n1_; have HB := n2_; have BK142 := n3_; have GW142 := n4_; have GE142 := n5_; clear n0_ n1_ n2_ n3_ n4_ n5_; clear hb hbox hg; obtain ⟨hcz26_0, hcz26_1, hcz26_2, hcz26_3⟩ := bkC4 BK142.out; obtain ⟨hfz26_0, hfz26_1, hfz26_2, hfz26_3⟩ := bkF4 BK142.out; have p143 : 0 ≤ (x11_3 : Int) := of_decide_eq_true (by first | (with_reducible assumption) | assumption); have q143 : x11_3 < (x8_3.length : Int) := of_decide_eq_true (by first | (with_reducible assumption) | assumption); obtain ⟨ad143, e143, hx143_0, hx143_1, hx143_2, hx143_3⟩ := at_T32 (Kd.R_reads' HO_8.out).2.2 x11_3 p143 q143; cases e143; have hn143_0 : ad143.block ≠ gb142 := Kd.own_blk (by first | exact Kd.R_ne HO_8.out BK142.out (by decide) | exact Kd.R_away HO_8.out (fun _ hk => hk.2) | exact Kd.R_away HO_8.out (fun _ hk => hk.2.2)); have hn143_1 : ad143.block ≠ gb142 := Kd.own_blk (by first | exact Kd.R_ne HO_8.out BK142.out (by decide) | exact Kd.R_away HO_8.out (fun _ hk => hk.2) | exact Kd.R_away HO_8.out (fun _ hk => hk.2.2)); have hn143_2 : ad143.block ≠ gb142 := Kd.own_blk (by first | exact Kd.R_ne HO_8.out BK142.out (by decide) | exact Kd.R_away HO_8.out (fun _ hk => hk.2) | exact Kd.R_away HO_8.out (fun _ hk => hk.2.2)); have hn143_3 : ad143.block ≠ gb142 := Kd.own_blk (by first | exact Kd.R_ne HO_8.out BK142.out (by decide) | exact Kd.R_away HO_8.out (fun _ hk => hk.2) | exact Kd.R_away HO_8.out (fun _ hk => hk.2.2)); replace hx143_0 := (cell_far (p := ⟨gb142, 0, none⟩) (by first | (rw [add_block]; exact hn143_0) | (show (Addr.add _ _).block ≠ _; rw [add_block]; exact hn143_0) | exact hn143_0) (.int .i64 ((rd_T31 t131 x11_3).f0))).trans hx143_0; replace hx143_1 := (cell_far (p := ⟨gb142, 0, none⟩) (by first | (rw [add_block]; exact hn143_0) | (show (Addr.add _ _).block ≠ _; rw [add_block]; exact hn143_0) | exact hn143_0) (.int .i64 ((rd_T31 t131 x11_3).f0))).trans hx143_1; replace hx143_2 := (cell_far (p := ⟨gb142, 0, none⟩) (by first | (rw [add_block]; exact hn143_0) | (show (Addr.add _ _).block ≠ _; rw [add_block]; exact hn143_0) | exact hn143_0) (.int .i64 ((rd_T31 t131 x11_3).f0))).trans hx143_2; replace hx143_3 := (cell_far (p := ⟨gb142, 0, none⟩) (by first | (rw [add_block]; exact hn143_0) | (show (Addr.add _ _).block ≠ _; rw [add_block]; exact hn143_0) | exact hn143_0) (.int .i64 ((rd_T31 t131 x11_3).f0))).trans hx143_3; replace hx143_0 := (cell_far (p := ⟨gb142, 1, none⟩) (by first | (rw [add_block]; exact hn143_1) | (show (Addr.add _ _).block ≠ _; rw [add_block]; exact hn143_1) | exact hn143_1) (.int .i64 ((rd_T31 t131 x11_3).f1))).trans hx143_0; replace hx143_1 := (cell_far (p := ⟨gb142, 1, none⟩) (by first | (rw [add_block]; exact hn143_1) | (show (Addr.add _ _).block ≠ _; rw [add_block]; exact hn143_1) | exact hn143_1) (.int .i64 ((rd_T31 t131 x11_3).f1))).trans hx143_1; replace hx143_2 := (cell_far (p := ⟨gb142, 1, none⟩) (by first | (rw [add_block]; exact hn143_1) | (show (Addr.add _ _).block ≠ _; rw [add_block]; exact hn143_1) | exact hn143_1) (.int .i64 ((rd_T31 t131 x11_3).f1))).trans hx143_2; replace hx143_3 := (cell_far (p := ⟨gb142, 1, none⟩) (by first | (rw [add_block]; exact hn143_1) | (show (Addr.add _ _).block ≠ _; rw [add_block]; exact hn143_1) | exact hn143_1) (.int .i64 ((rd_T31 t131 x11_3).f1))).trans hx143_3; replace hx143_0 := (cell_far (p := ⟨gb142, 2, none⟩) (by first | (rw [add_block]; exact hn143_2) | (show (Addr.add _ _).block ≠ _; rw [add_block]; exact hn143_2) | exact hn143_2) (.int .i64 ((rd_T31 t131 x11_3).f2))).trans hx143_0; replace hx143_1 := (cell_far (p := ⟨gb142, 2, none⟩) (by first | (rw [add_block]; exact hn143_2) | (show (Addr.add _ _).block ≠ _; rw [add_block]; exact hn143_2) | exact hn143_2) (.int .i64 ((rd_T31 t131 x11_3).f2))).trans hx143_1; replace hx143_2 := (cell_far (p := ⟨gb142, 2, none⟩) (by first | (rw [add_block]; exact hn143_2) | (show (Addr.add _ _).block ≠ _; rw [add_block]; exact hn143_2) | exact hn143_2) (.int .i64 ((rd_T31 t131 x11_3).f2))).trans hx143_2; replace hx143_3 := (cell_far (p := ⟨gb142, 2, none⟩) (by first | (rw [add_block]; exact hn143_2) | (show (Addr.add _ _).block ≠ _; rw [add_block]; exact hn143_2) | exact hn143_2) (.int .i64 ((rd_T31 t131 x11_3).f2))).trans hx143_3; replace hx143_0 := (cell_far (p := ⟨gb142, 3, none⟩) (by first | (rw [add_block]; exact hn143_3) | (show (Addr.add _ _).block ≠ _; rw [add_block]; exact hn143_3) | exact hn143_3) (.string ((rd_T31 t131 x11_3).f3))).trans hx143_0; replace hx143_1 := (cell_far (p := ⟨gb142, 3, none⟩) (by first | (rw [add_block]; exact hn143_3) | (show (Addr.add _ _).block ≠ _; rw [add_block]; exact hn143_3) | exact hn143_3) (.string ((rd_T31 t131 x11_3).f3))).trans hx143_1; replace hx143_2 := (cell_far (p := ⟨gb142, 3, none⟩) (by first | (rw [add_block]; exact hn143_3) | (show (Addr.add _ _).block ≠ _; rw [add_block]; exact hn143_3) | exact hn143_3) (.string ((rd_T31 t131 x11_3).f3))).trans hx143_2; replace hx143_3 := (cell_far (p := ⟨gb142, 3, none⟩) (by first | (rw [add_block]; exact hn143_3) | (show (Addr.add _ _).block ≠ _; rw [add_block]; exact hn143_3) | exact hn143_3) (.string ((rd_T31 t131 x11_3).f3))).trans hx143_3; (try have hy143_0 := fun (n_ : Nat) => (show ((((((w25.drewN n_).setCell ⟨gb142, 0, none⟩ (.int .i64 ((rd_T31 t131 x11_3).f0))).setCell ⟨gb142, 1, none⟩ (.int .i64 ((rd_T31 t131 x11_3).f1))).setCell ⟨gb142, 2, none⟩ (.int .i64 ((rd_T31 t131 x11_3).f2))).setCell ⟨gb142, 3, none⟩ (.string ((rd_T31 t131 x11_3).f3)))).cell? _ = some _ from hx143_0)); (try have hy143_1 := fun (n_ : Nat) => (show ((((((w25.drewN n_).setCell ⟨gb142, 0, none⟩ (.int .i64 ((rd_T31 t131 x11_3).f0))).setCell ⟨gb142, 1, none⟩ (.int .i64 ((rd_T31 t131 x11_3).f1))).setCell ⟨gb142, 2, none⟩ (.int .i64 ((rd_T31 t131 x11_3).f2))).setCell ⟨gb142, 3, none⟩ (.string ((rd_T31 t131 x11_3).f3)))).cell? _ = some _ from hx143_1)); (try have hy143_2 := fun (n_ : Nat) => (show ((((((w25.drewN n_).setCell ⟨gb142, 0, none⟩ (.int .i64 ((rd_T31 t131 x11_3).f0))).setCell ⟨gb142, 1, none⟩ (.int .i64 ((rd_T31 t131 x11_3).f1))).setCell ⟨gb142, 2, none⟩ (.int .i64 ((rd_T31 t131 x11_3).f2))).setCell ⟨gb142, 3, none⟩ (.string ((rd_T31 t131 x11_3).f3)))).cell? _ = some _ from hx143_2)); (try have hy143_3 := fun (n_ : Nat) => (show ((((((w25.drewN n_).setCell ⟨gb142, 0, none⟩ (.int .i64 ((rd_T31 t131 x11_3).f0))).setCell ⟨gb142, 1, none⟩ (.int .i64 ((rd_T31 t131 x11_3).f1))).setCell ⟨gb142, 2, none⟩ (.int .i64 ((rd_T31 t131 x11_3).f2))).setCell ⟨gb142, 3, none⟩ (.string ((rd_T31 t131 x11_3).f3)))).cell? _ = some _ from hx143_3)); clear hn143_0; clear hn143_1; clear hn143_2; clear hn143_3; replace p143 := eq_true p143; replace q143 := eq_true q143)))
             go_ret
             exact ⟨by first | rfl | (simp [errW_none, errW_some] <;> rfl) | (simp [*, errW_none, errW_some] <;> rfl), by repeat (first | (with_reducible first | exact HB.out | apply blA | apply pbN | apply blD | refine blS ?_ GE142.out) | exact HB.out)⟩
            ·rw [if_neg c22] at H
             have c22b0 : (!(((rd_T32 x8_3 x11_3).f0) == ((rd_T31 t131 x11_3).f0)) || (!(((rd_T32 x8_3 x11_3).f1) == ((rd_T31 t131 x11_3).f1)) || (!(((rd_T32 x8_3 x11_3).f2) == ((rd_T31 t131 x11_3).f2)) || (!((((rd_T32 x8_3 x11_3).f3).toList) == (((rd_T31 t131 x11_3).f3).toList)))))) = false := by simpa using c22
             clear c22
             obtain ⟨y144, hy144⟩ : ∃ y_ : List (S32), y_ = (x8_3.set (x11_3 : Int).toNat (⟨0, 0, 0, (⟨#[]⟩ : ByteArray)⟩ : S32)) := ⟨_, rfl⟩
             replace H : (w07_LexReads.l1 k3 a0 t130 t131 t132 t133 x7_1 y144 (wrap64 (x11_3 + 1))) = some r := by first | (rw [hy144]; with_reducible exact H) | (have H2_ := (Option.bind_some _ _).symm.trans H; rw [hy144]; with_reducible exact H2_) | (have H2_ := (Option.bind_some _ _).symm.trans H; with_reducible exact H2_) | with_reducible exact H | (rw [hy144]; exact H) | exact H
             have Ny144 := Asd.mk hy144
             clear hy144
             have H' := Asd.mk H
             clear H
             obtain ⟨Ao28, co28, eo28⟩ := Kd.R_slice HO_8.out
             subst eo28
             obtain ⟨Ao29, co29, eo29⟩ := Kd.R_slice HO_4.out
             subst eo29
             have p141 : 0 ≤ (x11_3 : Int) := of_decide_eq_true (by first | (with_reducible assumption) | assumption)
             have q141 : x11_3 < (t131.length : Int) := of_decide_eq_true (by first | (with_reducible assumption) | assumption)
             obtain ⟨ad141, e141, hx141_0, hx141_1, hx141_2, hx141_3⟩ := at_T31 (Kd.R_reads' HO_4.out).2.2 x11_3 p141 q141
             cases e141
             replace p141 := eq_true p141
             replace q141 := eq_true q141
             go_wp2_with (first | ((with_reducible refine gate_dst (N := 12) rfl ?_); refine box_event rfl (N := 12) rfl (cs := #[.int .i64 0, .int .i64 0, .int .i64 0, .string (⟨#[]⟩ : ByteArray)]) (t := 31) (by first | (go_simp; done) | (go_simp; rfl)) ?_; intro gb142 hg w30 hbox hb; have n0_ := Asd.mk (Kd.R_below (Kd.R_elderB (by (with_reducible repeat (first | apply Kd.R_alloc | apply Kd.R_drewN | apply Kd.R_drew)); exact HO_4.out) gb142 (Nat.le_of_eq hg.symm)) hb); have n1_ := Asd.mk (Kd.R_below (by (with_reducible repeat (first | apply Kd.R_alloc | apply Kd.R_drewN | apply Kd.R_drew)); exact HO_8.out) hb); have n2_ := Asd.mk (bS hb HB.out); have n3_ := Asd.mk (hbox); have n4_ := Asd.mk (bZ hg HB.out); have n5_ := Asd.mk (bZ hg HB.out); clear HO_4; clear HO_8; clear HB; have HO_4 := n0_; have HO_8 := n1_; have HB := n2_; have BK142 := n3_; have GW142 := n4_; have GE142 := n5_; clear n0_ n1_ n2_ n3_ n4_ n5_; clear hb hbox hg; obtain ⟨hcz31_0, hcz31_1, hcz31_2, hcz31_3⟩ := bkC4 BK142.out; obtain ⟨hfz31_0, hfz31_1, hfz31_2, hfz31_3⟩ := bkF4 BK142.out) | ((with_reducible refine gate_store (t := 31) (p := 12) rfl ?_); (try (rw [drewN_self w30]; generalize hq_ : World.drewN w30 _ = w30; have n0_ := Asd.mk (Kd.R_at hq_ HO_4.out); have n1_ := Asd.mk (Kd.R_at hq_ HO_8.out); have n2_ := Asd.mk (blk_at hq_ BK142.out); have n3_ := Asd.mk (below_at hq_ HB.out); clear hq_ HO_4 HO_8 BK142 HB; have HO_4 := n0_; have HO_8 := n1_; have BK142 := n2_; have HB := n3_; clear n0_ n1_ n2_ n3_)); refine store_event (t := 31) (p := 12) (v := ?vo_w32) (w1 := ((((w30.setCell ⟨gb142, 0, none⟩ (.int .i64 ((rd_T31 t131 x11_3).f0))).setCell ⟨gb142, 1, none⟩ (.int .i64 ((rd_T31 t131 x11_3).f1))).setCell ⟨gb142, 2, none⟩ (.int .i64 ((rd_T31 t131 x11_3).f2))).setCell ⟨gb142, 3, none⟩ (.string ((rd_T31 t131 x11_3).f3)))) ?hg ?ho ?hn ?hr ?_; (case ho => rfl); (case hg => rfl); (case hn => rfl); (case hr => first | (go_simp; done) | (go_simp; rfl)); intro w32 hw; have n0_ : Asd (Kd.R k31 31 w32 w.heap.size (fun k_ => k_ ≠ gb142) (.slice (some ad141) t131.length co29) t131) := ⟨(by rw [hw]; exact (by (with_reducible repeat (first | apply Kd.R_alloc | apply Kd.R_drewN | apply Kd.R_drew)); exact Kd.R_mono (Kd.R_far (p := ⟨gb142, 3, none⟩) (Kd.R_far (p := ⟨gb142, 2, none⟩) (Kd.R_far (p := ⟨gb142, 1, none⟩) (Kd.R_far (p := ⟨gb142, 0, none⟩) (Kd.R_mono HO_4.out (fun k_ hk => (⟨hk, hk.2⟩ : _ ∧ k_ ≠ gb142))) (fun _ hk => hk.2) (.int .i64 ((rd_T31 t131 x11_3).f0))) (fun _ hk => hk.2) (.int .i64 ((rd_T31 t131 x11_3).f1))) (fun _ hk => hk.2) (.int .i64 ((rd_T31 t131 x11_3).f2))) (fun _ hk => hk.2) (.string ((rd_T31 t131 x11_3).f3))) (fun _ hk => hk.1.2)))⟩; have n1_ : Asd (Kd.R k32 32 w32 w.heap.size (fun _ => True) (.slice Ao28 x8_3.length co28) x8_3) := ⟨(by rw [hw]; exact (by (with_reducible repeat (first | apply Kd.R_alloc | apply Kd.R_drewN | apply Kd.R_drew)); exact Kd.R_mono (Kd.R_far (p := ⟨gb142, 3, none⟩) (Kd.R_far (p := ⟨gb142, 2, none⟩) (Kd.R_far (p := ⟨gb142, 1, none⟩) (Kd.R_far (p := ⟨gb142, 0, none⟩) (Kd.R_types HO_8.out BK142.out (by decide)) (fun _ hk => hk.2) (.int .i64 ((rd_T31 t131 x11_3).f0))) (fun _ hk => hk.2) (.int .i64 ((rd_T31 t131 x11_3).f1))) (fun _ hk => hk.2) (.int .i64 ((rd_T31 t131 x11_3).f2))) (fun _ hk => hk.2) (.string ((rd_T31 t131 x11_3).f3))) (fun _ hk => trivial)))⟩; have n2_ : Asd (w32.heap[gb142]? = some (.cells #[.int .i64 ((rd_T31 t131 x11_3).f0), .int .i64 ((rd_T31 t131 x11_3).f1), .int .i64 ((rd_T31 t131 x11_3).f2), .string ((rd_T31 t131 x11_3).f3)] 31 (0, 0))) := ⟨(by rw [hw]; exact (by refine blk_put (cs := #[.int .i64 ((rd_T31 t131 x11_3).f0), .int .i64 ((rd_T31 t131 x11_3).f1), .int .i64 ((rd_T31 t131 x11_3).f2), .string (⟨#[]⟩ : ByteArray)]) ?_ 3 _ rfl; refine blk_put (cs := #[.int .i64 ((rd_T31 t131 x11_3).f0), .int .i64 ((rd_T31 t131 x11_3).f1), .int .i64 0, .string (⟨#[]⟩ : ByteArray)]) ?_ 2 _ rfl; refine blk_put (cs := #[.int .i64 ((rd_T31 t131 x11_3).f0), .int .i64 0, .int .i64 0, .string (⟨#[]⟩ : ByteArray)]) ?_ 1 _ rfl; refine blk_put (cs := #[.int .i64 0, .int .i64 0, .int .i64 0, .string (⟨#[]⟩ : ByteArray)]) ?_ 0 _ rfl; exact BK142.out))⟩; have n3_ : Asd (Below w.heap.size w w32) := ⟨(by rw [hw]; exact (by repeat (first | (with_reducible first | exact HB.out | apply blA | apply pbN | apply blD | refine blS ?_ GE142.out) | exact HB.out)))⟩; clear hw; clear HO_4; clear HO_8; clear BK142; clear HB; have HO_4 := n0_; have HO_8 := n1_; have BK142 := n2_; have HB := n3_; clear n0_ n1_ n2_ n3_; have p143 : 0 ≤ (x11_3 : Int) := of_decide_eq_true (by first | (with_reducible assumption) | assumption); have q143 : x11_3 < (x8_3.length : Int) := of_decide_eq_true (by first | (with_reducible assumption) | assumption); obtain ⟨ad143, e143, hx143_0, hx143_1, hx143_2, hx143_3⟩ := at_T32 (Kd.R_reads' HO_8.out).2.2 x11_3 p143 q143; cases e143; replace p143 := eq_true p143; replace q143 := eq_true q143; obtain ⟨hcz33_0, hcz33_1, hcz33_2, hcz33_3⟩ := bkC4 BK142.out; obtain ⟨hfz33_0, hfz33_1, hfz33_2, hfz33_3⟩ := bkF4 BK142.out; have p27 : 0 ≤ (x11_3 : Int) := of_decide_eq_true (by first | (with_reducible assumption) | assumption); have q27 : (x11_3 : Int) < ((x8_3.length : Int) : Int) := of_decide_eq_true (by first | (with_reducible assumption) | assumption); obtain ⟨go27, co27, eo27, gb27, gl27, cl27, HG27⟩ := Kd.R_form HO_8.out (by omega); (first | cases eo27 | (injection eo27 with ea_ en_ ec_; (first | subst ea_ | (injection ea_ with ea_; subst ea_)); subst ec_; clear en_)); have GB27 := Asd.mk gb27; have GG27 := Asd.mk HG27; clear gb27 gl27 HG27; (first | simp only [add_plain] at hx143_0 | skip); (first | simp only [add_plain] at hx143_1 | skip); (first | simp only [add_plain] at hx143_2 | skip); (first | simp only [add_plain] at hx143_3 | skip); obtain ⟨ce27, hcl27, hM27, hcc27, hfr27⟩ := Kd.R_elem HO_8.out z32 (x11_3 : Int) p27 q27; obtain rfl := k32_openM hM27; have hx27_0 : w32.cell? ⟨go27, (x11_3 : Int).toNat * 4, none⟩ = some (.int .i64 ((rd_T32 x8_3 x11_3).f0)) := hcc27 0 _ rfl; have hx27_1 : w32.cell? ⟨go27, (x11_3 : Int).toNat * 4 + 1, none⟩ = some (.int .i64 ((rd_T32 x8_3 x11_3).f1)) := hcc27 1 _ rfl; have hx27_2 : w32.cell? ⟨go27, (x11_3 : Int).toNat * 4 + 2, none⟩ = some (.int .i64 ((rd_T32 x8_3 x11_3).f2)) := hcc27 2 _ rfl; have hx27_3 : w32.cell? ⟨go27, (x11_3 : Int).toNat * 4 + 3, none⟩ = some (.string ((rd_T32 x8_3 x11_3).f3)) := hcc27 3 _ rfl; have hf27_0 : w32.frozen? ⟨go27, (x11_3 : Int).toNat * 4, none⟩ = false := hfr27 0; have hf27_1 : w32.frozen? ⟨go27, (x11_3 : Int).toNat * 4 + 1, none⟩ = false := hfr27 1; have hf27_2 : w32.frozen? ⟨go27, (x11_3 : Int).toNat * 4 + 2, none⟩ = false := hfr27 2; have hf27_3 : w32.frozen? ⟨go27, (x11_3 : Int).toNat * 4 + 3, none⟩ = false := hfr27 3; clear hcl27 hcc27 hfr27 hM27; replace p27 := eq_true p27; replace q27 := eq_true q27; have HX34 := Asd.mk (show Kd.R k32 32 w32 w.heap.size (fun _ => True) (.slice (some ⟨go27, 0, none⟩) x8_3.length co28) x8_3 from (by (with_reducible repeat (first | apply Kd.R_alloc | apply Kd.R_drewN | apply Kd.R_drew)); exact HO_8.out)); obtain ⟨ce34, hcl34, hM34, hcc34, hfr34⟩ := Kd.R_elem HX34.out z32 (x11_3 : Int) (of_decide_eq_true (by first | (with_reducible assumption) | assumption)) (by have h_ : (x11_3 : Int) < ((x8_3.length : Int) : Int) := of_decide_eq_true (by first | (with_reducible assumption) | assumption); first | exact h_ | (have e_ := (Kd.R_reads' HO_8.out).1; omega) | simpa using h_); obtain rfl := k32_openM hM34; have HP34 := Kd.R_seg HX34.out (x11_3 : Int) (of_decide_eq_true (by first | (with_reducible assumption) | assumption)) (by have h_ : (x11_3 : Int) < ((x8_3.length : Int) : Int) := of_decide_eq_true (by first | (with_reducible assumption) | assumption); first | exact h_ | (have e_ := (Kd.R_reads' HO_8.out).1; omega) | simpa using h_) (seg := [.int .i64 0, .int .i64 0, .int .i64 0, .string (⟨#[]⟩ : ByteArray)]) (j := 0) hcl34 hcc34 (show 4 ≤ 4 from by decide) (x' := (⟨0, 0, 0, (⟨#[]⟩ : ByteArray)⟩ : S32)) (k32_mkM _ _ _ (⟨0, 0, 0, (⟨#[]⟩ : ByteArray)⟩ : S32) ) (fun _ hk => hk); have hx34_0 := hcc34 0 _ rfl; (try simp only [show (k32).sz = 4 from rfl, Nat.mul_one, Nat.add_zero] at hx34_0); have hf34_0 := hfr34 0; (try simp only [show (k32).sz = 4 from rfl, Nat.mul_one, Nat.add_zero] at hf34_0); have hx34_1 := hcc34 1 _ rfl; (try simp only [show (k32).sz = 4 from rfl, Nat.mul_one, Nat.add_zero] at hx34_1); have hf34_1 := hfr34 1; (try simp only [show (k32).sz = 4 from rfl, Nat.mul_one, Nat.add_zero] at hf34_1); have hx34_2 := hcc34 2 _ rfl; (try simp only [show (k32).sz = 4 from rfl, Nat.mul_one, Nat.add_zero] at hx34_2); have hf34_2 := hfr34 2; (try simp only [show (k32).sz = 4 from rfl, Nat.mul_one, Nat.add_zero] at hf34_2); have hx34_3 := hcc34 3 _ rfl; (try simp only [show (k32).sz = 4 from rfl, Nat.mul_one, Nat.add_zero] at hx34_3); have hf34_3 := hfr34 3; (try simp only [show (k32).sz = 4 from rfl, Nat.mul_one, Nat.add_zero] at hf34_3); clear hcl34 hcc34 hfr34 hM34) | ((with_reducible refine gate_store (t := 32) (p := 72) rfl ?_); (try (rw [drewN_self w32]; generalize hq_ : World.drewN w32 _ = w32; have n0_ := Asd.mk (Kd.R_at hq_ HO_4.out); have n1_ := Asd.mk (Kd.R_at hq_ HO_8.out); have n2_ := Asd.mk (blk_at hq_ BK142.out); have n3_ := Asd.mk (below_at hq_ HB.out); clear hq_ HO_4 HO_8 BK142 HB; have HO_4 := n0_; have HO_8 := n1_; have BK142 := n2_; have HB := n3_; clear n0_ n1_ n2_ n3_; (try (have HX34 := Asd.mk (show Kd.R k32 32 w32 w.heap.size (fun _ => True) (.slice (some ⟨go27, 0, none⟩) x8_3.length co28) x8_3 from (by (with_reducible repeat (first | apply Kd.R_alloc | apply Kd.R_drewN | apply Kd.R_drew)); exact HO_8.out)))); (try (obtain ⟨ce34, hcl34, hM34, hcc34, hfr34⟩ := Kd.R_elem HX34.out z32 (x11_3 : Int) (of_decide_eq_true (by first | (with_reducible assumption) | assumption)) (by have h_ : (x11_3 : Int) < ((x8_3.length : Int) : Int) := of_decide_eq_true (by first | (with_reducible assumption) | assumption); first | exact h_ | (have e_ := (Kd.R_reads' HO_8.out).1; omega) | simpa using h_))); (try (obtain rfl := k32_openM hM34)); (try (have HP34 := Kd.R_seg HX34.out (x11_3 : Int) (of_decide_eq_true (by first | (with_reducible assumption) | assumption)) (by have h_ : (x11_3 : Int) < ((x8_3.length : Int) : Int) := of_decide_eq_true (by first | (with_reducible assumption) | assumption); first | exact h_ | (have e_ := (Kd.R_reads' HO_8.out).1; omega) | simpa using h_) (seg := [.int .i64 0, .int .i64 0, .int .i64 0, .string (⟨#[]⟩ : ByteArray)]) (j := 0) hcl34 hcc34 (show 4 ≤ 4 from by decide) (x' := (⟨0, 0, 0, (⟨#[]⟩ : ByteArray)⟩ : S32)) (k32_mkM _ _ _ (⟨0, 0, 0, (⟨#[]⟩ : ByteArray)⟩ : S32) ) (fun _ hk => hk))); (try (have hx34_0 := hcc34 0 _ rfl)); (try (try simp only [show (k32).sz = 4 from rfl, Nat.mul_one, Nat.add_zero] at hx34_0)); (try (have hf34_0 := hfr34 0)); (try (try simp only [show (k32).sz = 4 from rfl, Nat.mul_one, Nat.add_zero] at hf34_0)); (try (have hx34_1 := hcc34 1 _ rfl)); (try (try simp only [show (k32).sz = 4 from rfl, Nat.mul_one, Nat.add_zero] at hx34_1)); (try (have hf34_1 := hfr34 1)); (try (try simp only [show (k32).sz = 4 from rfl, Nat.mul_one, Nat.add_zero] at hf34_1)); (try (have hx34_2 := hcc34 2 _ rfl)); (try (try simp only [show (k32).sz = 4 from rfl, Nat.mul_one, Nat.add_zero] at hx34_2)); (try (have hf34_2 := hfr34 2)); (try (try simp only [show (k32).sz = 4 from rfl, Nat.mul_one, Nat.add_zero] at hf34_2)); (try (have hx34_3 := hcc34 3 _ rfl)); (try (try simp only [show (k32).sz = 4 from rfl, Nat.mul_one, Nat.add_zero] at hx34_3)); (try (have hf34_3 := hfr34 3)); (try (try simp only [show (k32).sz = 4 from rfl, Nat.mul_one, Nat.add_zero] at hf34_3)); (try (clear hcl34 hcc34 hfr34 hM34)))); refine store_event (t := 32) (p := 72) (v := ?vo_w35) (w1 := ((((w32.setCell ⟨go27, (x11_3 : Int).toNat * 4, none⟩ (.int .i64 0)).setCell ⟨go27, (x11_3 : Int).toNat * 4 + 1, none⟩ (.int .i64 0)).setCell ⟨go27, (x11_3 : Int).toNat * 4 + 2, none⟩ (.int .i64 0)).setCell ⟨go27, (x11_3 : Int).toNat * 4 + 3, none⟩ (.string (⟨#[]⟩ : ByteArray)))) ?hg ?ho ?hn ?hr ?_; (case ho => rfl); (case hg => rfl); (case hn => rfl); (case hr => first | (go_simp; done) | (go_simp; rfl)); intro w35 hw; have hg : w32.grownBy w35 (some go27) := (by rw [hw]; exact HP34.2); have hp_ : Kd.R k32 32 w35 w.heap.size (fun _ => True) (.slice (some ⟨go27, 0, none⟩) x8_3.length co28) y144 := (by rw [hw, Ny144.out]; exact HP34.1); clear HP34; have n0_ := Asd.mk (Kd.R_over' (v := (.slice (some ⟨go27, 0, none⟩) x8_3.length co28)) (by (with_reducible repeat (first | apply Kd.R_alloc | apply Kd.R_drewN | apply Kd.R_drew)); exact HO_4.out) (Kd.R_typed HO_8.out) (by decide) hg); have n1_ := Asd.mk (hp_); have n2_ := Asd.mk (blk_grown (g := gb142) (o := .cells #[.int .i64 ((rd_T31 t131 x11_3).f0), .int .i64 ((rd_T31 t131 x11_3).f1), .int .i64 ((rd_T31 t131 x11_3).f2), .string ((rd_T31 t131 x11_3).f3)] 31 (0, 0)) (by exact BK142.out) hg (by first | exact Kd.R_ne HO_8.out BK142.out (by decide) | exact Kd.R_away HO_8.out (fun _ hk => hk.2) | exact Kd.R_away HO_8.out (fun _ hk => hk.2.2))); have n3_ := Asd.mk ((by rw [hw]; exact blS (blS (blS (blS (HB.out) GB27.out) GB27.out) GB27.out) GB27.out : Below w.heap.size w w35)); clear HO_4; clear HO_8; clear BK142; clear HB; have HO_4 := n0_; have HO_8 := n1_; have BK142 := n2_; have HB := n3_; clear n0_ n1_ n2_ n3_; clear hg hw hp_))
             repeat (go_quiet (first | ((with_reducible refine gate_dst (N := 12) rfl ?_); refine box_event rfl (N := 12) rfl (cs := #[.int .i64 0, .int .i64 0, .int .i64 0, .string (⟨#[]⟩ : ByteArray)]) (t := 31) (by first | (go_simp; done) | (go_simp; rfl)) ?_; intro gb142 hg w30 hbox hb; have n0_ := Asd.mk (Kd.R_below (Kd.R_elderB (by (with_reducible repeat (first | apply Kd.R_alloc | apply Kd.R_drewN | apply Kd.R_drew)); exact HO_4.out) gb142 (Nat.le_of_eq hg.symm)) hb); have n1_ := Asd.mk (Kd.R_below (by (with_reducible repeat (first | apply Kd.R_alloc | apply Kd.R_drewN | apply Kd.R_drew)); exact HO_8.out) hb); have n2_ := Asd.mk (bS hb HB.out); have n3_ := Asd.mk (hbox); have n4_ := Asd.mk (bZ hg HB.out); have n5_ := Asd.mk (bZ hg HB.out); clear HO_4; clear HO_8; clear HB; have HO_4 := n0_; have HO_8 := n1_; have HB := n2_; have BK142 := n3_; have GW142 := n4_; have GE142 := n5_; clear n0_ n1_ n2_ n3_ n4_ n5_; clear hb hbox hg; obtain ⟨hcz31_0, hcz31_1, hcz31_2, hcz31_3⟩ := bkC4 BK142.out; obtain ⟨hfz31_0, hfz31_1, hfz31_2, hfz31_3⟩ := bkF4 BK142.out) | ((with_reducible refine gate_store (t := 31) (p := 12) rfl ?_); (try (rw [drewN_self w30]; generalize hq_ : World.drewN w30 _ = w30; have n0_ := Asd.mk (Kd.R_at hq_ HO_4.out); have n1_ := Asd.mk (Kd.R_at hq_ HO_8.out); have n2_ := Asd.mk (blk_at hq_ BK142.out); have n3_ := Asd.mk (below_at hq_ HB.out); clear hq_ HO_4 HO_8 BK142 HB; have HO_4 := n0_; have HO_8 := n1_; have BK142 := n2_; have HB := n3_; clear n0_ n1_ n2_ n3_)); refine store_event (t := 31) (p := 12) (v := ?vo_w32) (w1 := ((((w30.setCell ⟨gb142, 0, none⟩ (.int .i64 ((rd_T31 t131 x11_3).f0))).setCell ⟨gb142, 1, none⟩ (.int .i64 ((rd_T31 t131 x11_3).f1))).setCell ⟨gb142, 2, none⟩ (.int .i64 ((rd_T31 t131 x11_3).f2))).setCell ⟨gb142, 3, none⟩ (.string ((rd_T31 t131 x11_3).f3)))) ?hg ?ho ?hn ?hr ?_; (case ho => rfl); (case hg => rfl); (case hn => rfl); (case hr => first | (go_simp; done) | (go_simp; rfl)); intro w32 hw; have n0_ : Asd (Kd.R k31 31 w32 w.heap.size (fun k_ => k_ ≠ gb142) (.slice (some ad141) t131.length co29) t131) := ⟨(by rw [hw]; exact (by (with_reducible repeat (first | apply Kd.R_alloc | apply Kd.R_drewN | apply Kd.R_drew)); exact Kd.R_mono (Kd.R_far (p := ⟨gb142, 3, none⟩) (Kd.R_far (p := ⟨gb142, 2, none⟩) (Kd.R_far (p := ⟨gb142, 1, none⟩) (Kd.R_far (p := ⟨gb142, 0, none⟩) (Kd.R_mono HO_4.out (fun k_ hk => (⟨hk, hk.2⟩ : _ ∧ k_ ≠ gb142))) (fun _ hk => hk.2) (.int .i64 ((rd_T31 t131 x11_3).f0))) (fun _ hk => hk.2) (.int .i64 ((rd_T31 t131 x11_3).f1))) (fun _ hk => hk.2) (.int .i64 ((rd_T31 t131 x11_3).f2))) (fun _ hk => hk.2) (.string ((rd_T31 t131 x11_3).f3))) (fun _ hk => hk.1.2)))⟩; have n1_ : Asd (Kd.R k32 32 w32 w.heap.size (fun _ => True) (.slice Ao28 x8_3.length co28) x8_3) := ⟨(by rw [hw]; exact (by (with_reducible repeat (first | apply Kd.R_alloc | apply Kd.R_drewN | apply Kd.R_drew)); exact Kd.R_mono (Kd.R_far (p := ⟨gb142, 3, none⟩) (Kd.R_far (p := ⟨gb142, 2, none⟩) (Kd.R_far (p := ⟨gb142, 1, none⟩) (Kd.R_far (p := ⟨gb142, 0, none⟩) (Kd.R_types HO_8.out BK142.out (by decide)) (fun _ hk => hk.2) (.int .i64 ((rd_T31 t131 x11_3).f0))) (fun _ hk => hk.2) (.int .i64 ((rd_T31 t131 x11_3).f1))) (fun _ hk => hk.2) (.int .i64 ((rd_T31 t131 x11_3).f2))) (fun _ hk => hk.2) (.string ((rd_T31 t131 x11_3).f3))) (fun _ hk => trivial)))⟩; have n2_ : Asd (w32.heap[gb142]? = some (.cells #[.int .i64 ((rd_T31 t131 x11_3).f0), .int .i64 ((rd_T31 t131 x11_3).f1), .int .i64 ((rd_T31 t131 x11_3).f2), .string ((rd_T31 t131 x11_3).f3)] 31 (0, 0))) := ⟨(by rw [hw]; exact (by refine blk_put (cs := #[.int .i64 ((rd_T31 t131 x11_3).f0), .int .i64 ((rd_T31 t131 x11_3).f1), .int .i64 ((rd_T31 t131 x11_3).f2), .string (⟨#[]⟩ : ByteArray)]) ?_ 3 _ rfl; refine blk_put (cs := #[.int .i64 ((rd_T31 t131 x11_3).f0), .int .i64 ((rd_T31 t131 x11_3).f1), .int .i64 0, .string (⟨#[]⟩ : ByteArray)]) ?_ 2 _ rfl; refine blk_put (cs := #[.int .i64 ((rd_T31 t131 x11_3).f0), .int .i64 0, .int .i64 0, .string (⟨#[]⟩ : ByteArray)]) ?_ 1 _ rfl; refine blk_put (cs := #[.int .i64 0, .int .i64 0, .int .i64 0, .string (⟨#[]⟩ : ByteArray)]) ?_ 0 _ rfl; exact BK142.out))⟩; have n3_ : Asd (Below w.heap.size w w32) := ⟨(by rw [hw]; exact (by repeat (first | (with_reducible first | exact HB.out | apply blA | apply pbN | apply blD | refine blS ?_ GE142.out) | exact HB.out)))⟩; clear hw; clear HO_4; clear HO_8; clear BK142; clear HB; have HO_4 := n0_; have HO_8 := n1_; have BK142 := n2_; have HB := n3_; clear n0_ n1_ n2_ n3_; have p143 : 0 ≤ (x11_3 : Int) := of_decide_eq_true (by first | (with_reducible assumption) | assumption); have q143 : x11_3 < (x8_3.length : Int) := of_decide_eq_true (by first | (with_reducible assumption) | assumption); obtain ⟨ad143, e143, hx143_0, hx143_1, hx143_2, hx143_3⟩ := at_T32 (Kd.R_reads' HO_8.out).2.2 x11_3 p143 q143; cases e143; replace p143 := eq_true p143; replace q143 := eq_true q143; obtain ⟨hcz33_0, hcz33_1, hcz33_2, hcz33_3⟩ := bkC4 BK142.out; obtain ⟨hfz33_0, hfz33_1, hfz33_2, hfz33_3⟩ := bkF4 BK142.out; have p27 : 0 ≤ (x11_3 : Int) := of_decide_eq_true (by first | (with_reducible assumption) | assumption); have q27 : (x11_3 : Int) < ((x8_3.length : Int) : Int) := of_decide_eq_true (by first | (with_reducible assumption) | assumption); obtain ⟨go27, co27, eo27, gb27, gl27, cl27, HG27⟩ := Kd.R_form HO_8.out (by omega); (first | cases eo27 | (injection eo27 with ea_ en_ ec_; (first | subst ea_ | (injection ea_ with ea_; subst ea_)); subst ec_; clear en_)); have GB27 := Asd.mk gb27; have GG27 := Asd.mk HG27; clear gb27 gl27 HG27; (first | simp only [add_plain] at hx143_0 | skip); (first | simp only [add_plain] at hx143_1 | skip); (first | simp only [add_plain] at hx143_2 | skip); (first | simp only [add_plain] at hx143_3 | skip); obtain ⟨ce27, hcl27, hM27, hcc27, hfr27⟩ := Kd.R_elem HO_8.out z32 (x11_3 : Int) p27 q27; obtain rfl := k32_openM hM27; have hx27_0 : w32.cell? ⟨go27, (x11_3 : Int).toNat * 4, none⟩ = some (.int .i64 ((rd_T32 x8_3 x11_3).f0)) := hcc27 0 _ rfl; have hx27_1 : w32.cell? ⟨go27, (x11_3 : Int).toNat * 4 + 1, none⟩ = some (.int .i64 ((rd_T32 x8_3 x11_3).f1)) := hcc27 1 _ rfl; have hx27_2 : w32.cell? ⟨go27, (x11_3 : Int).toNat * 4 + 2, none⟩ = some (.int .i64 ((rd_T32 x8_3 x11_3).f2)) := hcc27 2 _ rfl; have hx27_3 : w32.cell? ⟨go27, (x11_3 : Int).toNat * 4 + 3, none⟩ = some (.string ((rd_T32 x8_3 x11_3).f3)) := hcc27 3 _ rfl; have hf27_0 : w32.frozen? ⟨go27, (x11_3 : Int).toNat * 4, none⟩ = false := hfr27 0; have hf27_1 : w32.frozen? ⟨go27, (x11_3 : Int).toNat * 4 + 1, none⟩ = false := hfr27 1; have hf27_2 : w32.frozen? ⟨go27, (x11_3 : Int).toNat * 4 + 2, none⟩ = false := hfr27 2; have hf27_3 : w32.frozen? ⟨go27, (x11_3 : Int).toNat * 4 + 3, none⟩ = false := hfr27 3; clear hcl27 hcc27 hfr27 hM27; replace p27 := eq_true p27; replace q27 := eq_true q27; have HX34 := Asd.mk (show Kd.R k32 32 w32 w.heap.size (fun _ => True) (.slice (some ⟨go27, 0, none⟩) x8_3.length co28) x8_3 from (by (with_reducible repeat (first | apply Kd.R_alloc | apply Kd.R_drewN | apply Kd.R_drew)); exact HO_8.out)); obtain ⟨ce34, hcl34, hM34, hcc34, hfr34⟩ := Kd.R_elem HX34.out z32 (x11_3 : Int) (of_decide_eq_true (by first | (with_reducible assumption) | assumption)) (by have h_ : (x11_3 : Int) < ((x8_3.length : Int) : Int) := of_decide_eq_true (by first | (with_reducible assumption) | assumption); first | exact h_ | (have e_ := (Kd.R_reads' HO_8.out).1; omega) | simpa using h_); obtain rfl := k32_openM hM34; have HP34 := Kd.R_seg HX34.out (x11_3 : Int) (of_decide_eq_true (by first | (with_reducible assumption) | assumption)) (by have h_ : (x11_3 : Int) < ((x8_3.length : Int) : Int) := of_decide_eq_true (by first | (with_reducible assumption) | assumption); first | exact h_ | (have e_ := (Kd.R_reads' HO_8.out).1; omega) | simpa using h_) (seg := [.int .i64 0, .int .i64 0, .int .i64 0, .string (⟨#[]⟩ : ByteArray)]) (j := 0) hcl34 hcc34 (show 4 ≤ 4 from by decide) (x' := (⟨0, 0, 0, (⟨#[]⟩ : ByteArray)⟩ : S32)) (k32_mkM _ _ _ (⟨0, 0, 0, (⟨#[]⟩ : ByteArray)⟩ : S32) ) (fun _ hk => hk); have hx34_0 := hcc34 0 _ rfl; (try simp only [show (k32).sz = 4 from rfl, Nat.mul_one, Nat.add_zero] at hx34_0); have hf34_0 := hfr34 0; (try simp only [show (k32).sz = 4 from rfl, Nat.mul_one, Nat.add_zero] at hf34_0); have hx34_1 := hcc34 1 _ rfl; (try simp only [show (k32).sz = 4 from rfl, Nat.mul_one, Nat.add_zero] at hx34_1); have hf34_1 := hfr34 1; (try simp only [show (k32).sz = 4 from rfl, Nat.mul_one, Nat.add_zero] at hf34_1); have hx34_2 := hcc34 2 _ rfl; (try simp only [show (k32).sz = 4 from rfl, Nat.mul_one, Nat.add_zero] at hx34_2); have hf34_2 := hfr34 2; (try simp only [show (k32).sz = 4 from rfl, Nat.mul_one, Nat.add_zero] at hf34_2); have hx34_3 := hcc34 3 _ rfl; (try simp only [show (k32).sz = 4 from rfl, Nat.mul_one, Nat.add_zero] at hx34_3); have hf34_3 := hfr34 3; (try simp only [show (k32).sz = 4 from rfl, Nat.mul_one, Nat.add_zero] at hf34_3); clear hcl34 hcc34 hfr34 hM34) | ((with_reducible refine gate_store (t := 32) (p := 72) rfl ?_); (try (rw [drewN_self w32]; generalize hq_ : World.drewN w32 _ = w32; have n0_ := Asd.mk (Kd.R_at hq_ HO_4.out); have n1_ := Asd.mk (Kd.R_at hq_ HO_8.out); have n2_ := Asd.mk (blk_at hq_ BK142.out); have n3_ := Asd.mk (below_at hq_ HB.out); clear hq_ HO_4 HO_8 BK142 HB; have HO_4 := n0_; have HO_8 := n1_; have BK142 := n2_; have HB := n3_; clear n0_ n1_ n2_ n3_; (try (have HX34 := Asd.mk (show Kd.R k32 32 w32 w.heap.size (fun _ => True) (.slice (some ⟨go27, 0, none⟩) x8_3.length co28) x8_3 from (by (with_reducible repeat (first | apply Kd.R_alloc | apply Kd.R_drewN | apply Kd.R_drew)); exact HO_8.out)))); (try (obtain ⟨ce34, hcl34, hM34, hcc34, hfr34⟩ := Kd.R_elem HX34.out z32 (x11_3 : Int) (of_decide_eq_true (by first | (with_reducible assumption) | assumption)) (by have h_ : (x11_3 : Int) < ((x8_3.length : Int) : Int) := of_decide_eq_true (by first | (with_reducible assumption) | assumption); first | exact h_ | (have e_ := (Kd.R_reads' HO_8.out).1; omega) | simpa using h_))); (try (obtain rfl := k32_openM hM34)); (try (have HP34 := Kd.R_seg HX34.out (x11_3 : Int) (of_decide_eq_true (by first | (with_reducible assumption) | assumption)) (by have h_ : (x11_3 : Int) < ((x8_3.length : Int) : Int) := of_decide_eq_true (by first | (with_reducible assumption) | assumption); first | exact h_ | (have e_ := (Kd.R_reads' HO_8.out).1; omega) | simpa using h_) (seg := [.int .i64 0, .int .i64 0, .int .i64 0, .string (⟨#[]⟩ : ByteArray)]) (j := 0) hcl34 hcc34 (show 4 ≤ 4 from by decide) (x' := (⟨0, 0, 0, (⟨#[]⟩ : ByteArray)⟩ : S32)) (k32_mkM _ _ _ (⟨0, 0, 0, (⟨#[]⟩ : ByteArray)⟩ : S32) ) (fun _ hk => hk))); (try (have hx34_0 := hcc34 0 _ rfl)); (try (try simp only [show (k32).sz = 4 from rfl, Nat.mul_one, Nat.add_zero] at hx34_0)); (try (have hf34_0 := hfr34 0)); (try (try simp only [show (k32).sz = 4 from rfl, Nat.mul_one, Nat.add_zero] at hf34_0)); (try (have hx34_1 := hcc34 1 _ rfl)); (try (try simp only [show (k32).sz = 4 from rfl, Nat.mul_one, Nat.add_zero] at hx34_1)); (try (have hf34_1 := hfr34 1)); (try (try simp only [show (k32).sz = 4 from rfl, Nat.mul_one, Nat.add_zero] at hf34_1)); (try (have hx34_2 := hcc34 2 _ rfl)); (try (try simp only [show (k32).sz = 4 from rfl, Nat.mul_one, Nat.add_zero] at hx34_2)); (try (have hf34_2 := hfr34 2)); (try (try simp only [show (k32).sz = 4 from rfl, Nat.mul_one, Nat.add_zero] at hf34_2)); (try (have hx34_3 := hcc34 3 _ rfl)); (try (try simp only [show (k32).sz = 4 from rfl, Nat.mul_one, Nat.add_zero] at hx34_3)); (try (have hf34_3 := hfr34 3)); (try (try simp only [show (k32).sz = 4 from rfl, Nat.mul_one, Nat.add_zero] at hf34_3)); (try (clear hcl34 hcc34 hfr34 hM34)))); refine store_event (t := 32) (p := 72) (v := ?vo_w35) (w1 := ((((w32.setCell ⟨go27, (x11_3 : Int).toNat * 4, none⟩ (.int .i64 0)).setCell ⟨go27, (x11_3 : Int).toNat * 4 + 1, none⟩ (.int .i64 0)).setCell ⟨go27, (x11_3 : Int).toNat * 4 + 2, none⟩ (.int .i64 0)).setCell ⟨go27, (x11_3 : Int).toNat * 4 + 3, none⟩ (.string (⟨#[]⟩ : ByteArray)))) ?hg ?ho ?hn ?hr ?_; (case ho => rfl); (case hg => rfl); (case hn => rfl); (case hr => first | (go_simp; done) | (go_simp; rfl)); intro w35 hw; have hg : w32.grownBy w35 (some go27) := (by rw [hw]; exact HP34.2); have hp_ : Kd.R k32 32 w35 w.heap.size (fun _ => True) (.slice (some ⟨go27, 0, none⟩) x8_3.length co28) y144 := (by rw [hw, Ny144.out]; exact HP34.1); clear HP34; have n0_ := Asd.mk (Kd.R_over' (v := (.slice (some ⟨go27, 0, none⟩) x8_3.length co28)) (by (with_reducible repeat (first | apply Kd.R_alloc | apply Kd.R_drewN | apply Kd.R_drew)); exact HO_4.out) (Kd.R_typed HO_8.out) (by decide) hg); have n1_ := Asd.mk (hp_); have n2_ := Asd.mk (blk_grown (g := gb142) (o := .cells #[.int .i64 ((rd_T31 t131 x11_3).f0), .int .i64 ((rd_T31 t131 x11_3).f1), .int .i64 ((rd_T31 t131 x11_3).f2), .string ((rd_T31 t131 x11_3).f3)] 31 (0, 0)) (by exact BK142.out) hg (by first | exact Kd.R_ne HO_8.out BK142.out (by decide) | exact Kd.R_away HO_8.out (fun _ hk => hk.2) | exact Kd.R_away HO_8.out (fun _ hk => hk.2.2))); have n3_ := Asd.mk ((by rw [hw]; exact blS (blS (blS (blS (HB.out) GB27.out) GB27.out) GB27.out) GB27.out : Below w.heap.size w w35)); clear HO_4; clear HO_8; clear BK142; clear HB; have HO_4 := n0_; have HO_8 := n1_; have BK142 := n2_; have HB := n3_; clear n0_ n1_ n2_ n3_; clear hg hw hp_)); try go_wp2_with (first | ((with_reducible refine gate_dst (N := 12) rfl ?_); refine box_event rfl (N := 12) rfl (cs := #[.int .i64 0, .int .i64 0, .int .i64 0, .string (⟨#[]⟩ : ByteArray)]) (t := 31) (by first | (go_simp; done) | (go_simp; rfl)) ?_; intro gb142 hg w30 hbox hb; have n0_ := Asd.mk (Kd.R_below (Kd.R_elderB (by (with_reducible repeat (first | apply Kd.R_alloc | apply Kd.R_drewN | apply Kd.R_drew)); exact HO_4.out) gb142 (Nat.le_of_eq hg.symm)) hb); have n1_ := Asd.mk (Kd.R_below (by (with_reducible repeat (first | apply Kd.R_alloc | apply Kd.R_drewN | apply Kd.R_drew)); exact HO_8.out) hb); have n2_ := Asd.mk (bS hb HB.out); have n3_ := Asd.mk (hbox); have n4_ := Asd.mk (bZ hg HB.out); have n5_ := Asd.mk (bZ hg HB.out); clear HO_4; clear HO_8; clear HB; have HO_4 := n0_; have HO_8 := n1_; have HB := n2_; have BK142 := n3_; have GW142 := n4_; have GE142 := n5_; clear n0_ n1_ n2_ n3_ n4_ n5_; clear hb hbox hg; obtain ⟨hcz31_0, hcz31_1, hcz31_2, hcz31_3⟩ := bkC4 BK142.out; obtain ⟨hfz31_0, hfz31_1, hfz31_2, hfz31_3⟩ := bkF4 BK142.out) | ((with_reducible refine gate_store (t := 31) (p := 12) rfl ?_); (try (rw [drewN_self w30]; generalize hq_ : World.drewN w30 _ = w30; have n0_ := Asd.mk (Kd.R_at hq_ HO_4.out); have n1_ := Asd.mk (Kd.R_at hq_ HO_8.out); have n2_ := Asd.mk (blk_at hq_ BK142.out); have n3_ := Asd.mk (below_at hq_ HB.out); clear hq_ HO_4 HO_8 BK142 HB; have HO_4 := n0_; have HO_8 := n1_; have BK142 := n2_; have HB := n3_; clear n0_ n1_ n2_ n3_)); refine store_event (t := 31) (p := 12) (v := ?vo_w32) (w1 := ((((w30.setCell ⟨gb142, 0, none⟩ (.int .i64 ((rd_T31 t131 x11_3).f0))).setCell ⟨gb142, 1, none⟩ (.int .i64 ((rd_T31 t131 x11_3).f1))).setCell ⟨gb142, 2, none⟩ (.int .i64 ((rd_T31 t131 x11_3).f2))).setCell ⟨gb142, 3, none⟩ (.string ((rd_T31 t131 x11_3).f3)))) ?hg ?ho ?hn ?hr ?_; (case ho => rfl); (case hg => rfl); (case hn => rfl); (case hr => first | (go_simp; done) | (go_simp; rfl)); intro w32 hw; have n0_ : Asd (Kd.R k31 31 w32 w.heap.size (fun k_ => k_ ≠ gb142) (.slice (some ad141) t131.length co29) t131) := ⟨(by rw [hw]; exact (by (with_reducible repeat (first | apply Kd.R_alloc | apply Kd.R_drewN | apply Kd.R_drew)); exact Kd.R_mono (Kd.R_far (p := ⟨gb142, 3, none⟩) (Kd.R_far (p := ⟨gb142, 2, none⟩) (Kd.R_far (p := ⟨gb142, 1, none⟩) (Kd.R_far (p := ⟨gb142, 0, none⟩) (Kd.R_mono HO_4.out (fun k_ hk => (⟨hk, hk.2⟩ : _ ∧ k_ ≠ gb142))) (fun _ hk => hk.2) (.int .i64 ((rd_T31 t131 x11_3).f0))) (fun _ hk => hk.2) (.int .i64 ((rd_T31 t131 x11_3).f1))) (fun _ hk => hk.2) (.int .i64 ((rd_T31 t131 x11_3).f2))) (fun _ hk => hk.2) (.string ((rd_T31 t131 x11_3).f3))) (fun _ hk => hk.1.2)))⟩; have n1_ : Asd (Kd.R k32 32 w32 w.heap.size (fun _ => True) (.slice Ao28 x8_3.length co28) x8_3) := ⟨(by rw [hw]; exact (by (with_reducible repeat (first | apply Kd.R_alloc | apply Kd.R_drewN | apply Kd.R_drew)); exact Kd.R_mono (Kd.R_far (p := ⟨gb142, 3, none⟩) (Kd.R_far (p := ⟨gb142, 2, none⟩) (Kd.R_far (p := ⟨gb142, 1, none⟩) (Kd.R_far (p := ⟨gb142, 0, none⟩) (Kd.R_types HO_8.out BK142.out (by decide)) (fun _ hk => hk.2) (.int .i64 ((rd_T31 t131 x11_3).f0))) (fun _ hk => hk.2) (.int .i64 ((rd_T31 t131 x11_3).f1))) (fun _ hk => hk.2) (.int .i64 ((rd_T31 t131 x11_3).f2))) (fun _ hk => hk.2) (.string ((rd_T31 t131 x11_3).f3))) (fun _ hk => trivial)))⟩; have n2_ : Asd (w32.heap[gb142]? = some (.cells #[.int .i64 ((rd_T31 t131 x11_3).f0), .int .i64 ((rd_T31 t131 x11_3).f1), .int .i64 ((rd_T31 t131 x11_3).f2), .string ((rd_T31 t131 x11_3).f3)] 31 (0, 0))) := ⟨(by rw [hw]; exact (by refine blk_put (cs := #[.int .i64 ((rd_T31 t131 x11_3).f0), .int .i64 ((rd_T31 t131 x11_3).f1), .int .i64 ((rd_T31 t131 x11_3).f2), .string (⟨#[]⟩ : ByteArray)]) ?_ 3 _ rfl; refine blk_put (cs := #[.int .i64 ((rd_T31 t131 x11_3).f0), .int .i64 ((rd_T31 t131 x11_3).f1), .int .i64 0, .string (⟨#[]⟩ : ByteArray)]) ?_ 2 _ rfl; refine blk_put (cs := #[.int .i64 ((rd_T31 t131 x11_3).f0), .int .i64 0, .int .i64 0, .string (⟨#[]⟩ : ByteArray)]) ?_ 1 _ rfl; refine blk_put (cs := #[.int .i64 0, .int .i64 0, .int .i64 0, .string (⟨#[]⟩ : ByteArray)]) ?_ 0 _ rfl; exact BK142.out))⟩; have n3_ : Asd (Below w.heap.size w w32) := ⟨(by rw [hw]; exact (by repeat (first | (with_reducible first | exact HB.out | apply blA | apply pbN | apply blD | refine blS ?_ GE142.out) | exact HB.out)))⟩; clear hw; clear HO_4; clear HO_8; clear BK142; clear HB; have HO_4 := n0_; have HO_8 := n1_; have BK142 := n2_; have HB := n3_; clear n0_ n1_ n2_ n3_; have p143 : 0 ≤ (x11_3 : Int) := of_decide_eq_true (by first | (with_reducible assumption) | assumption); have q143 : x11_3 < (x8_3.length : Int) := of_decide_eq_true (by first | (with_reducible assumption) | assumption); obtain ⟨ad143, e143, hx143_0, hx143_1, hx143_2, hx143_3⟩ := at_T32 (Kd.R_reads' HO_8.out).2.2 x11_3 p143 q143; cases e143; replace p143 := eq_true p143; replace q143 := eq_true q143; obtain ⟨hcz33_0, hcz33_1, hcz33_2, hcz33_3⟩ := bkC4 BK142.out; obtain ⟨hfz33_0, hfz33_1, hfz33_2, hfz33_3⟩ := bkF4 BK142.out; have p27 : 0 ≤ (x11_3 : Int) := of_decide_eq_true (by first | (with_reducible assumption) | assumption); have q27 : (x11_3 : Int) < ((x8_3.length : Int) : Int) := of_decide_eq_true (by first | (with_reducible assumption) | assumption); obtain ⟨go27, co27, eo27, gb27, gl27, cl27, HG27⟩ := Kd.R_form HO_8.out (by omega); (first | cases eo27 | (injection eo27 with ea_ en_ ec_; (first | subst ea_ | (injection ea_ with ea_; subst ea_)); subst ec_; clear en_)); have GB27 := Asd.mk gb27; have GG27 := Asd.mk HG27; clear gb27 gl27 HG27; (first | simp only [add_plain] at hx143_0 | skip); (first | simp only [add_plain] at hx143_1 | skip); (first | simp only [add_plain] at hx143_2 | skip); (first | simp only [add_plain] at hx143_3 | skip); obtain ⟨ce27, hcl27, hM27, hcc27, hfr27⟩ := Kd.R_elem HO_8.out z32 (x11_3 : Int) p27 q27; obtain rfl := k32_openM hM27; have hx27_0 : w32.cell? ⟨go27, (x11_3 : Int).toNat * 4, none⟩ = some (.int .i64 ((rd_T32 x8_3 x11_3).f0)) := hcc27 0 _ rfl; have hx27_1 : w32.cell? ⟨go27, (x11_3 : Int).toNat * 4 + 1, none⟩ = some (.int .i64 ((rd_T32 x8_3 x11_3).f1)) := hcc27 1 _ rfl; have hx27_2 : w32.cell? ⟨go27, (x11_3 : Int).toNat * 4 + 2, none⟩ = some (.int .i64 ((rd_T32 x8_3 x11_3).f2)) := hcc27 2 _ rfl; have hx27_3 : w32.cell? ⟨go27, (x11_3 : Int).toNat * 4 + 3, none⟩ = some (.string ((rd_T32 x8_3 x11_3).f3)) := hcc27 3 _ rfl; have hf27_0 : w32.frozen? ⟨go27, (x11_3 : Int).toNat * 4, none⟩ = false := hfr27 0; have hf27_1 : w32.frozen? ⟨go27, (x11_3 : Int).toNat * 4 + 1, none⟩ = false := hfr27 1; have hf27_2 : w32.frozen? ⟨go27, (x11_3 : Int).toNat * 4 + 2, none⟩ = false := hfr27 2; have hf27_3 : w32.frozen? ⟨go27, (x11_3 : Int).toNat * 4 + 3, none⟩ = false := hfr27 3; clear hcl27 hcc27 hfr27 hM27; replace p27 := eq_true p27; replace q27 := eq_true q27; have HX34 := Asd.mk (show Kd.R k32 32 w32 w.heap.size (fun _ => True) (.slice (some ⟨go27, 0, none⟩) x8_3.length co28) x8_3 from (by (with_reducible repeat (first | apply Kd.R_alloc | apply Kd.R_drewN | apply Kd.R_drew)); exact HO_8.out)); obtain ⟨ce34, hcl34, hM34, hcc34, hfr34⟩ := Kd.R_elem HX34.out z32 (x11_3 : Int) (of_decide_eq_true (by first | (with_reducible assumption) | assumption)) (by have h_ : (x11_3 : Int) < ((x8_3.length : Int) : Int) := of_decide_eq_true (by first | (with_reducible assumption) | assumption); first | exact h_ | (have e_ := (Kd.R_reads' HO_8.out).1; omega) | simpa using h_); obtain rfl := k32_openM hM34; have HP34 := Kd.R_seg HX34.out (x11_3 : Int) (of_decide_eq_true (by first | (with_reducible assumption) | assumption)) (by have h_ : (x11_3 : Int) < ((x8_3.length : Int) : Int) := of_decide_eq_true (by first | (with_reducible assumption) | assumption); first | exact h_ | (have e_ := (Kd.R_reads' HO_8.out).1; omega) | simpa using h_) (seg := [.int .i64 0, .int .i64 0, .int .i64 0, .string (⟨#[]⟩ : ByteArray)]) (j := 0) hcl34 hcc34 (show 4 ≤ 4 from by decide) (x' := (⟨0, 0, 0, (⟨#[]⟩ : ByteArray)⟩ : S32)) (k32_mkM _ _ _ (⟨0, 0, 0, (⟨#[]⟩ : ByteArray)⟩ : S32) ) (fun _ hk => hk); have hx34_0 := hcc34 0 _ rfl; (try simp only [show (k32).sz = 4 from rfl, Nat.mul_one, Nat.add_zero] at hx34_0); have hf34_0 := hfr34 0; (try simp only [show (k32).sz = 4 from rfl, Nat.mul_one, Nat.add_zero] at hf34_0); have hx34_1 := hcc34 1 _ rfl; (try simp only [show (k32).sz = 4 from rfl, Nat.mul_one, Nat.add_zero] at hx34_1); have hf34_1 := hfr34 1; (try simp only [show (k32).sz = 4 from rfl, Nat.mul_one, Nat.add_zero] at hf34_1); have hx34_2 := hcc34 2 _ rfl; (try simp only [show (k32).sz = 4 from rfl, Nat.mul_one, Nat.add_zero] at hx34_2); have hf34_2 := hfr34 2; (try simp only [show (k32).sz = 4 from rfl, Nat.mul_one, Nat.add_zero] at hf34_2); have hx34_3 := hcc34 3 _ rfl; (try simp only [show (k32).sz = 4 from rfl, Nat.mul_one, Nat.add_zero] at hx34_3); have hf34_3 := hfr34 3; (try simp only [show (k32).sz = 4 from rfl, Nat.mul_one, Nat.add_zero] at hf34_3); clear hcl34 hcc34 hfr34 hM34) | ((with_reducible refine gate_store (t := 32) (p := 72) rfl ?_); (try (rw [drewN_self w32]; generalize hq_ : World.drewN w32 _ = w32; have n0_ := Asd.mk (Kd.R_at hq_ HO_4.out); have n1_ := Asd.mk (Kd.R_at hq_ HO_8.out); have n2_ := Asd.mk (blk_at hq_ BK142.out); have n3_ := Asd.mk (below_at hq_ HB.out); clear hq_ HO_4 HO_8 BK142 HB; have HO_4 := n0_; have HO_8 := n1_; have BK142 := n2_; have HB := n3_; clear n0_ n1_ n2_ n3_; (try (have HX34 := Asd.mk (show Kd.R k32 32 w32 w.heap.size (fun _ => True) (.slice (some ⟨go27, 0, none⟩) x8_3.length co28) x8_3 from (by (with_reducible repeat (first | apply Kd.R_alloc | apply Kd.R_drewN | apply Kd.R_drew)); exact HO_8.out)))); (try (obtain ⟨ce34, hcl34, hM34, hcc34, hfr34⟩ := Kd.R_elem HX34.out z32 (x11_3 : Int) (of_decide_eq_true (by first | (with_reducible assumption) | assumption)) (by have h_ : (x11_3 : Int) < ((x8_3.length : Int) : Int) := of_decide_eq_true (by first | (with_reducible assumption) | assumption); first | exact h_ | (have e_ := (Kd.R_reads' HO_8.out).1; omega) | simpa using h_))); (try (obtain rfl := k32_openM hM34)); (try (have HP34 := Kd.R_seg HX34.out (x11_3 : Int) (of_decide_eq_true (by first | (with_reducible assumption) | assumption)) (by have h_ : (x11_3 : Int) < ((x8_3.length : Int) : Int) := of_decide_eq_true (by first | (with_reducible assumption) | assumption); first | exact h_ | (have e_ := (Kd.R_reads' HO_8.out).1; omega) | simpa using h_) (seg := [.int .i64 0, .int .i64 0, .int .i64 0, .string (⟨#[]⟩ : ByteArray)]) (j := 0) hcl34 hcc34 (show 4 ≤ 4 from by decide) (x' := (⟨0, 0, 0, (⟨#[]⟩ : ByteArray)⟩ : S32)) (k32_mkM _ _ _ (⟨0, 0, 0, (⟨#[]⟩ : ByteArray)⟩ : S32) ) (fun _ hk => hk))); (try (have hx34_0 := hcc34 0 _ rfl)); (try (try simp only [show (k32).sz = 4 from rfl, Nat.mul_one, Nat.add_zero] at hx34_0)); (try (have hf34_0 := hfr34 0)); (try (try simp only [show (k32).sz = 4 from rfl, Nat.mul_one, Nat.add_zero] at hf34_0)); (try (have hx34_1 := hcc34 1 _ rfl)); (try (try simp only [show (k32).sz = 4 from rfl, Nat.mul_one, Nat.add_zero] at hx34_1)); (try (have hf34_1 := hfr34 1)); (try (try simp only [show (k32).sz = 4 from rfl, Nat.mul_one, Nat.add_zero] at hf34_1)); (try (have hx34_2 := hcc34 2 _ rfl)); (try (try simp only [show (k32).sz = 4 from rfl, Nat.mul_one, Nat.add_zero] at hx34_2)); (try (have hf34_2 := hfr34 2)); (try (try simp only [show (k32).sz = 4 from rfl, Nat.mul_one, Nat.add_zero] at hf34_2)); (try (have hx34_3 := hcc34 3 _ rfl)); (try (try simp only [show (k32).sz = 4 from rfl, Nat.mul_one, Nat.add_zero] at hx34_3)); (try (have hf34_3 := hfr34 3)); (try (try simp only [show (k32).sz = 4 from rfl, Nat.mul_one, Nat.add_zero] at hf34_3)); (try (clear hcl34 hcc34 hfr34 hM34)))); refine store_event (t := 32) (p := 72) (v := ?vo_w35) (w1 := ((((w32.setCell ⟨go27, (x11_3 : Int).toNat * 4, none⟩ (.int .i64 0)).setCell ⟨go27, (x11_3 : Int).toNat * 4 + 1, none⟩ (.int .i64 0)).setCell ⟨go27, (x11_3 : Int).toNat * 4 + 2, none⟩ (.int .i64 0)).setCell ⟨go27, (x11_3 : Int).toNat * 4 + 3, none⟩ (.string (⟨#[]⟩ : ByteArray)))) ?hg ?ho ?hn ?hr ?_; (case ho => rfl); (case hg => rfl); (case hn => rfl); (case hr => first | (go_simp; done) | (go_simp; rfl)); intro w35 hw; have hg : w32.grownBy w35 (some go27) := (by rw [hw]; exact HP34.2); have hp_ : Kd.R k32 32 w35 w.heap.size (fun _ => True) (.slice (some ⟨go27, 0, none⟩) x8_3.length co28) y144 := (by rw [hw, Ny144.out]; exact HP34.1); clear HP34; have n0_ := Asd.mk (Kd.R_over' (v := (.slice (some ⟨go27, 0, none⟩) x8_3.length co28)) (by (with_reducible repeat (first | apply Kd.R_alloc | apply Kd.R_drewN | apply Kd.R_drew)); exact HO_4.out) (Kd.R_typed HO_8.out) (by decide) hg); have n1_ := Asd.mk (hp_); have n2_ := Asd.mk (blk_grown (g := gb142) (o := .cells #[.int .i64 ((rd_T31 t131 x11_3).f0), .int .i64 ((rd_T31 t131 x11_3).f1), .int .i64 ((rd_T31 t131 x11_3).f2), .string ((rd_T31 t131 x11_3).f3)] 31 (0, 0)) (by exact BK142.out) hg (by first | exact Kd.R_ne HO_8.out BK142.out (by decide) | exact Kd.R_away HO_8.out (fun _ hk => hk.2) | exact Kd.R_away HO_8.out (fun _ hk => hk.2.2))); have n3_ := Asd.mk ((by rw [hw]; exact blS (blS (blS (blS (HB.out) GB27.out) GB27.out) GB27.out) GB27.out : Below w.heap.size w w35)); clear HO_4; clear HO_8; clear BK142; clear HB; have HO_4 := n0_; have HO_8 := n1_; have BK142 := n2_; have HB := n3_; clear n0_ n1_ n2_ n3_; clear hg hw hp_)))
             go_roundg k3
             case measure => have := HK1.out; have := HJ7.out; have := HK3.out; omega
             case rel => exact ⟨(y144), (wrap64 (x11_3 + 1)), (by first | rfl | (simp; done) | (simp [*]; done)), H', ⟨by have := HK1.out; have := HJ7.out; have := HK3.out; omega⟩, ⟨by (with_reducible repeat (first | apply Kd.R_alloc | apply Kd.R_drewN | apply Kd.R_drew)); exact Kd.R_mono HO_4.out (fun _ hk => trivial)⟩, ⟨by (with_reducible repeat (first | apply Kd.R_alloc | apply Kd.R_drewN | apply Kd.R_drew)); exact HO_8.out⟩, ⟨by repeat (first | (with_reducible first | exact HB.out | apply blA | apply pbN | apply blD | refine blS ?_ GE142.out) | exact HB.out)⟩⟩
           ·rw [if_neg c21] at H
            exact absurd H (by simp)
          ·rw [if_neg c20] at H
           exact absurd H (by simp)
         ·rw [if_neg c19] at H
          have c19b0 : decide (x11_3 < (x8_3.length : Int)) = false := decide_eq_false c19
          clear c19
          have H' := Asd.mk H
          clear H
          obtain ⟨Ao36, co36, eo36⟩ := Kd.R_slice HO_8.out
          subst eo36
          go_wp2
          repeat (go_quiet (fail); try go_wp2)
          go_roundg k3
          case measure => have := HK1.out; have := HJ7.out; have := HK3.out; omega
          case rel => exact ⟨(wrap64 (x7_1 + 1)), (by first | rfl | (simp; done) | (simp [*]; done)), H', ⟨by have := HK1.out; have := HJ7.out; have := HK3.out; omega⟩, ⟨by (with_reducible repeat (first | apply Kd.R_alloc | apply Kd.R_drewN | apply Kd.R_drew)); exact HO_4.out⟩, ⟨by repeat (first | (with_reducible first | exact HB.out | apply blA | apply pbN | apply blD) | exact HB.out)⟩⟩
   ·rw [if_neg c6] at H
    have c6b0 : decide (x7_1 < 2) = false := decide_eq_false c6
    clear c6
    obtain rfl := Option.some.inj H
    go_wp2
    repeat (go_quiet (fail); try go_wp2)
    go_ret
    exact ⟨by first | rfl | (simp [errW_none, errW_some] <;> rfl) | (simp [*, errW_none, errW_some] <;> rfl), by repeat (first | (with_reducible first | exact HB.out | apply blA | apply pbN | apply blD) | exact HB.out)⟩
end Go.Proofs.YtniapbinamnmpaaDoor.L
namespace Go.Proofs.YtniapbinamnmpaaDoor.L
set_option linter.unusedSimpArgs false
set_option linter.unusedVariables false
open Go.RowKit Go.Proofs.YtniapbinamnmpaaDoorW.PrintWords Go.Proofs.YtniapbinamnmpaaDoorW.PrintLast Go.Proofs.YtniapbinamnmpaaDoorW.PrintMore
def zeroT : Tk := ⟨0, 0, 0, (⟨#[]⟩ : ByteArray)⟩
def zeroed (T : List Tk) (m : Nat) : List Tk := List.replicate m zeroT ++ T.drop m
theorem zeroed_len (T : List Tk) (m : Nat) (h : m ≤ T.length) : (zeroed T m).length = T.length := by
  unfold zeroed; rw [List.length_append, List.length_replicate, List.length_drop]; omega
theorem zeroed_get (T : List Tk) (m : Nat) (h : m < T.length) : rd_T32 (zeroed T m) (m : Int) = T[m] := by
  unfold rd_T32 zeroed
  rw [Int.toNat_natCast, List.getD_eq_getElem?_getD, List.getElem?_append_right (by rw [List.length_replicate]; exact Nat.le_refl _), List.length_replicate, Nat.sub_self, List.getElem?_drop, Nat.add_zero, List.getElem?_eq_getElem h]; rfl
theorem zeroed_set (T : List Tk) (m : Nat) (h : m < T.length) : (zeroed T m).set m zeroT = zeroed T (m + 1) := by
  unfold zeroed
  rw [List.set_append_right _ _ (by rw [List.length_replicate]; exact Nat.le_refl _), List.length_replicate, Nat.sub_self, List.drop_eq_getElem_cons h, List.set_cons_zero, List.replicate_succ', List.append_assoc]; rfl
theorem map_get (T : List Tk) (m : Nat) (h : m < T.length) : rd_T31 (T.map toR) (m : Int) = toR T[m] := by
  unfold rd_T31
  rw [Int.toNat_natCast, List.getD_eq_getElem?_getD, List.getElem?_map, List.getElem?_eq_getElem h]; rfl
theorem reads_l1 (x0 : ByteArray) (T : List Tk) (hT : T.length ≤ 400) (x5 x6 x7 : Int) (hn : Ev (fun k => w07_LexReads.l0 k x0 true (T.map toR) x5 x6 (wrap64 (x7 + 1))) true) :
    ∀ (d m : Nat), T.length - m ≤ d → m ≤ T.length → Ev (fun k => w07_LexReads.l1 k x0 true (T.map toR) x5 x6 x7 (zeroed T m) (m : Int)) true := by
  intro d
  have hend : ∀ m : Nat, m ≤ T.length → T.length ≤ m → Ev (fun k => w07_LexReads.l1 k x0 true (T.map toR) x5 x6 x7 (zeroed T m) (m : Int)) true := fun m h1 h2 => by
    refine Ev.steps 1 (fun k => ?_) hn
    rw [w07_LexReads.l1, zeroed_len T m h1, if_neg (by omega)]
  induction d with
  | zero => intro m hd hm; exact hend m hm (by omega)
  | succ d ih =>
    intro m hd hm
    by_cases h : m < T.length
    · have := ih (m + 1) (by omega) (by omega)
      refine Ev.steps 1 (fun k => ?_) this
      rw [w07_LexReads.l1, zeroed_len T m hm, if_pos (by omega), if_pos (by omega), List.length_map, if_pos (by omega), zeroed_get T m h, map_get T m h]
      have hb : (!((T[m].f0 == (toR T[m]).f0)) || (!(T[m].f1 == (toR T[m]).f1) || (!(T[m].f2 == (toR T[m]).f2) || !((T[m].f3).toList == ((toR T[m]).f3).toList)))) = false := by
        simp [toR]
      rw [if_neg (by rw [hb]; decide), Int.toNat_natCast, show (⟨0, 0, 0, (⟨#[]⟩ : ByteArray)⟩ : S32) = zeroT from rfl, zeroed_set T m h, wrap64_of (by omega) (by omega)]
      rfl
    · exact hend m hm (by omega)
theorem LexReads_true (a0 : ByteArray) : ∃ k, w07_LexReads.f k a0 = some true := by
  obtain ⟨q, hq⟩ : ∃ q, lexL a0 = q := ⟨_, rfl⟩
  obtain ⟨T, e, p⟩ := q
  have hl := lexL_len a0 hq
  have hR : q07_Lex.f a0 = some (T.map toR, e, p) := by unfold q07_Lex.f; rw [hq]
  have hL : lex_Lex.f a0 = some (T, e, p) := by unfold lex_Lex.f; rw [hq]
  have h2 : Ev (fun k => w07_LexReads.l0 k a0 true (T.map toR) e p 2) true := Ev.const 1 (fun k => by rw [w07_LexReads.l0, if_neg (by decide)])
  have hs : ∀ x7 : Int, x7 < 2 → Ev (fun k => w07_LexReads.l0 k a0 true (T.map toR) e p (wrap64 (x7 + 1))) true → Ev (fun k => w07_LexReads.l0 k a0 true (T.map toR) e p x7) true := fun x7 h7 hn => by
    refine Ev.steps 2 (fun k => ?_) (reads_l1 a0 T hl e p x7 hn T.length 0 (by omega) (Nat.zero_le _))
    rw [w07_LexReads.l0, if_pos h7, hL]
    simp only [Option.bind_some]
    rw [if_pos (by rw [List.length_map]), if_pos trivial, w07_LexReads.j1, if_neg (by simp)]
    rfl
  have h1 := hs 1 (by decide) (by rw [show wrap64 (1 + 1) = 2 from wrap64_of (by decide) (by decide)]; exact h2)
  have h0 := hs 0 (by decide) (by rw [show wrap64 (0 + 1) = 1 from wrap64_of (by decide) (by decide)]; exact h1)
  obtain ⟨k, hk⟩ := h0.rounds
  refine ⟨k, ?_⟩
  unfold w07_LexReads.f
  rw [ex_true, Option.bind_some, hR, Option.bind_some]
  exact hk
end Go.Proofs.YtniapbinamnmpaaDoor.L
