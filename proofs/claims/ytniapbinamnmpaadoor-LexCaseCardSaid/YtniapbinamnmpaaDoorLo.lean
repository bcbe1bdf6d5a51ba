/- The walk of the closure of lex.Lex: one token. -/
import Derived.Test.YtniapbinamnmpaaDoorLo0
import Derived.Deep.RegionHeld3
namespace Go.Proofs.YtniapbinamnmpaaDoor.L
set_option linter.unusedVariables false
set_option linter.unusedSimpArgs false
open Go.RowKit Go.Proofs.YtniapbinamnmpaaDoorW.PrintWords Go.Proofs.YtniapbinamnmpaaDoorW.PrintLast Go.Proofs.YtniapbinamnmpaaDoorW.PrintMore

theorem ascii_wrd {c : UInt8} (h : wrdB c = true) : c.toNat < 128 := by
  unfold wrdB letB digB at h
  simp only [Bool.or_eq_true, Bool.and_eq_true, decide_eq_true_eq, beq_iff_eq] at h
  rcases h with ((h | h) | h) | h
  · omega
  · omega
  · omega
  · subst h; decide
theorem take_all (p : UInt8 → Bool) (d : List UInt8) : ∀ c ∈ d.take (spanL p d), p c = true := by
  intro c hc
  have h : d.take (spanL p d) = d.takeWhile p := by
    unfold spanL
    have := List.takeWhile_prefix p (l := d)
    exact (List.prefix_iff_eq_take.1 this).symm
  rw [h] at hc
  exact List.all_eq_true.1 (List.all_takeWhile ..) c hc
def signsV : Array Value := (signsL.map fun x => Value.string ⟨x.toArray⟩).toArray
def OneP (w0 : World) (l : List UInt8) (i : Nat) (e : Ending) (w' : World) : Prop := OneQ (oneL l i) i e ∧ Below w0.heap.size w0 w'
theorem one_inr {w0 w' : World} {l : List UInt8} {i : Nat} {k n e : Int} {x : List UInt8} {E : Nat} {S : ByteArray} (h : oneL l i = .inr (k, n, x, E)) (hS : S = ⟨x.toArray⟩) (hE : e = (E : Int)) (hb : Below w0.heap.size w0 w') :
    OneP w0 l i (.returned (.tuple #[.agg (tkC k n i S), .int .i64 e, .int .i64 0, .int .i64 0])) w' := by
  subst hS; subst hE
  refine ⟨?_, hb⟩
  rw [h]; rfl
theorem one_inl {w0 w' : World} {l : List UInt8} {i : Nat} {k n a : Int} {S : ByteArray} {e p : Int} (h : oneL l i = .inl (e, p)) (hb : Below w0.heap.size w0 w') :
    OneP w0 l i (.returned (.tuple #[.agg (tkC k n a S), .int .i64 0, .int .i64 e, .int .i64 p])) w' := by
  refine ⟨?_, hb⟩
  rw [h]; exact ⟨k, n, a, S, rfl⟩

set_option maxHeartbeats 8000000 in
set_option maxRecDepth 100000 in
theorem one_ok (s : ByteArray) (l : List UInt8) (hl : s.data.toList = l) (i : Nat) (sb mb m : Nat) (w : World) (hs : s.size ≤ 100000) (hi : i < s.size) (hsb : w.heap[sb]? = some (.cells #[.string s] 9 (0, 0))) (hmb : w.heap[mb]? = some (.cells #[.map (some m)] 39 (0, 0))) (hK : KnownAt m w) :
    Calls Tryd.prog 14 #[.int .i64 i, .pointer (some ⟨sb, 0, none⟩), .pointer (some ⟨mb, 0, none⟩)] w (OneP w l i) := by
  obtain ⟨n, hn⟩ : ∃ n, s.size = n := ⟨_, rfl⟩
  have hln : l.length = n := by rw [← hl, ← sz_list, hn]
  have hin : i < n := by omega
  have hn5 : n ≤ 100000 := by omega
  obtain ⟨c, hc⟩ : ∃ c, s[i] = c := ⟨_, rfl⟩
  have hdr : ∃ r, l.drop i = c :: r := by
    refine ⟨l.drop (i + 1), ?_⟩
    rw [List.drop_eq_getElem_cons (by omega)]
    congr 1
    have h1 := byte_at s l hl i hi
    rw [hc] at h1
    rw [h1]; simp [show i < l.length by omega]
  obtain ⟨r, hdr⟩ := hdr
  have HSC : Hid (∀ W, Below w.heap.size w W → W.cell? ⟨sb, 0, none⟩ = some (.string s)) := Lib.hid (fun W hW => (blk_cell ((hW.block sb (blk_lt hsb)).trans hsb) 0).trans rfl)
  have HMC : Hid (∀ W, Below w.heap.size w W → W.cell? ⟨mb, 0, none⟩ = some (.map (some m))) := Lib.hid (fun W hW => (blk_cell ((hW.block mb (blk_lt hmb)).trans hmb) 0).trans rfl)
  have HKN : Hid (∀ W, Below w.heap.size w W → KnownAt m W) := Lib.hid (fun W hW => hK.later hW)
  have HSB := Lib.hid (blk_lt hsb)
  have HDR := Lib.hid hdr; have HLN := Lib.hid hln; have HL := Lib.hid hl; have HNN := Lib.hid hn; have HC0 := Lib.hid hc
  have HO : Hid (oneL l i = (if letB c = true then (if spanL wrdB (c :: r) > 20 then .inl (5, (i : Int)) else .inr (if isWord (lowL ((c :: r).take (spanL wrdB (c :: r)))) = true then 1 else 2, 0, lowL ((c :: r).take (spanL wrdB (c :: r))), i + spanL wrdB (c :: r)))
    else if digB c = true then (match numL 0 ((c :: r).take (spanL digB (c :: r))) with | none => .inl (5, (i : Int)) | some v => .inr (3, v, [], i + spanL digB (c :: r)))
    else if c = 39 then (match quotL r with | none => .inl (6, (l.length : Int)) | some p => if p.1.length > 40 then .inl (5, (i : Int)) else .inr (4, 0, p.1, i + 1 + p.2))
    else if c = 36 then (if spanL digB r = 0 then .inl (6, (i : Int)) else match numL 0 (r.take (spanL digB r)) with | none => .inl (5, (i : Int)) | some v => if v < 1 ∨ v > 4 then .inl (5, (i : Int)) else .inr (5, v, [], i + 1 + spanL digB r))
    else (match signL (c :: r) with | some g => .inr (6, 0, g, i + g.length) | none => .inl (6, (i : Int))))) := by
    show _ = _
    unfold oneL; rw [hdr]; rfl
  have hbl0 := Below.refl w.heap.size w
  have hsc0 := HSC.out w hbl0; have hmc0 := HMC.out w hbl0
  clear hsb hmb hK hdr hln hl hbl0
  go_enter Tryd.func14, Tryd.ntmps14
  go_upto_region 1 with (first | ((with_reducible refine gate_dst (N := 4) rfl ?_); refine box_event rfl (N := 4) rfl (cs := #[.int .i64 0, .int .i64 0, .int .i64 0, .string ⟨#[]⟩]) (t := 32) (by first | rfl | (go_simp; done) | (go_simp; rfl)) ?_; intro rb hgg w1 hbrb hBrb; have hrw : w.heap.size ≤ rb := (by omega); clear hgg))
  go_upto_region 2 with (first | ((with_reducible refine gate_dst (N := 8) rfl ?_); refine box_event rfl (N := 8) rfl (cs := #[.int .i64 0, .int .i64 0, .int .i64 0, .string ⟨#[]⟩]) (t := 32) (by first | rfl | (go_simp; done) | (go_simp; rfl)) ?_; intro tb hgg w2 hbtb hBtb; have htw : w1.heap.size ≤ tb := (by omega); clear hgg; have q0 : w2.cell? ⟨tb, 0, none⟩ = some (.int .i64 0) := ((blk_cell hbtb 0).trans rfl); have q1 : w2.cell? ⟨tb, 1, none⟩ = some (.int .i64 0) := ((blk_cell hbtb 1).trans rfl); have q2 : w2.cell? ⟨tb, 2, none⟩ = some (.int .i64 0) := ((blk_cell hbtb 2).trans rfl); have q3 : w2.cell? ⟨tb, 3, none⟩ = some (.string ⟨#[]⟩) := ((blk_cell hbtb 3).trans rfl); have f0 := blk_frozen hbtb 0; have f1 := blk_frozen hbtb 1; have f2 := blk_frozen hbtb 2; have f3 := blk_frozen hbtb 3))
  have hne : rb ≠ tb := by have := blk_lt hbrb; omega
  have E3 : Hid (OEnv w rb tb 0 0 i ⟨#[]⟩ 0 0 0 ⟨#[]⟩ ((((w2.setCell ⟨tb, 0, none⟩ (.int .i64 0)).setCell ⟨tb, 1, none⟩ (.int .i64 0)).setCell ⟨tb, 2, none⟩ (.int .i64 i)).setCell ⟨tb, 3, none⟩ (.string ⟨#[]⟩))) :=
    ⟨tk_below (hBrb.trans (hBtb.mono hBrb.size)) (Nat.le_trans hBrb.size htw) 0 0 i ⟨#[]⟩, tk_put (k0 := 0) (n0 := 0) (a0 := 0) (s0 := ⟨#[]⟩) hbtb 0 0 i ⟨#[]⟩, tk_far ((hBtb.block rb (blk_lt hbrb)).trans hbrb) hne 0 0 i ⟨#[]⟩, hne, hrw, Nat.le_trans hBrb.size htw⟩
  clear q0 q1 q2 q3 f0 f1 f2 f3 hbrb hBrb hbtb hBtb hne hrw htw hsc0 hmc0
  generalize (((w2.setCell ⟨tb, 0, none⟩ (.int .i64 0)).setCell ⟨tb, 1, none⟩ (.int .i64 0)).setCell ⟨tb, 2, none⟩ (.int .i64 i)).setCell ⟨tb, 3, none⟩ (.string ⟨#[]⟩) = w3 at E3 ⊢
  have hi0 : (0 : Int) ≤ (i : Int) := by omega
  have hin' : (i : Int) < (n : Int) := by omega
  have ht0 : w3.cell? ⟨tb, 0, none⟩ = some (.int .i64 0) := (blk_cell E3.out.tb_ 0).trans rfl; have htf0 := blk_frozen E3.out.tb_ 0; have ht1 : w3.cell? ⟨tb, 1, none⟩ = some (.int .i64 0) := (blk_cell E3.out.tb_ 1).trans rfl; have htf1 := blk_frozen E3.out.tb_ 1; have ht2 : w3.cell? ⟨tb, 2, none⟩ = some (.int .i64 i) := (blk_cell E3.out.tb_ 2).trans rfl; have htf2 := blk_frozen E3.out.tb_ 2; have ht3 : w3.cell? ⟨tb, 3, none⟩ = some (.string ⟨#[]⟩) := (blk_cell E3.out.tb_ 3).trans rfl; have htf3 := blk_frozen E3.out.tb_ 3; have hr0 : w3.cell? ⟨rb, 0, none⟩ = some (.int .i64 0) := (blk_cell E3.out.rb_ 0).trans rfl; have hrf0 := blk_frozen E3.out.rb_ 0; have hr1 : w3.cell? ⟨rb, 1, none⟩ = some (.int .i64 0) := (blk_cell E3.out.rb_ 1).trans rfl; have hrf1 := blk_frozen E3.out.rb_ 1; have hr2 : w3.cell? ⟨rb, 2, none⟩ = some (.int .i64 0) := (blk_cell E3.out.rb_ 2).trans rfl; have hrf2 := blk_frozen E3.out.rb_ 2; have hr3 : w3.cell? ⟨rb, 3, none⟩ = some (.string ⟨#[]⟩) := (blk_cell E3.out.rb_ 3).trans rfl; have hrf3 := blk_frozen E3.out.rb_ 3; have hsc : w3.cell? ⟨sb, 0, none⟩ = some (.string s) := HSC.out w3 E3.out.bl; have hmc : w3.cell? ⟨mb, 0, none⟩ = some (.map (some m)) := HMC.out w3 E3.out.bl
  go_upto_region 3 with fail
  obtain ⟨b1, hb1⟩ : ∃ b, letB c = b := ⟨_, rfl⟩
  have HLT : Hid (Calls Tryd.prog 15 #[.int .u8 c.toNat] w3 fun e w' => e = .returned (.bool b1) ∧ Below w3.heap.size w3 w') := (letter_ok c w3).mono (by rintro e w' ⟨rfl, h⟩; exact ⟨by rw [hb1], h.below⟩)
  have HB1 := Lib.hid hb1
  clear hb1
  cases b1 with
  | true =>
    have HO1 := Lib.hid (HO.out.trans (if_pos HB1.out))
    go_upto_region 4 with (go_at_call 15; refine HLT.out.mono ?_; rintro e_ w4 ⟨rfl, hb_⟩)
    have E4 := Lib.hid (E3.out.later hb_)
    clear ht0 htf0 ht1 htf1 ht2 htf2 ht3 htf3 hr0 hrf0 hr1 hrf1 hr2 hrf2 hr3 hrf3 hsc hmc hb_
    have ht0 : w4.cell? ⟨tb, 0, none⟩ = some (.int .i64 0) := (blk_cell E4.out.tb_ 0).trans rfl; have htf0 := blk_frozen E4.out.tb_ 0; have ht1 : w4.cell? ⟨tb, 1, none⟩ = some (.int .i64 0) := (blk_cell E4.out.tb_ 1).trans rfl; have htf1 := blk_frozen E4.out.tb_ 1; have ht2 : w4.cell? ⟨tb, 2, none⟩ = some (.int .i64 i) := (blk_cell E4.out.tb_ 2).trans rfl; have htf2 := blk_frozen E4.out.tb_ 2; have ht3 : w4.cell? ⟨tb, 3, none⟩ = some (.string ⟨#[]⟩) := (blk_cell E4.out.tb_ 3).trans rfl; have htf3 := blk_frozen E4.out.tb_ 3; have hr0 : w4.cell? ⟨rb, 0, none⟩ = some (.int .i64 0) := (blk_cell E4.out.rb_ 0).trans rfl; have hrf0 := blk_frozen E4.out.rb_ 0; have hr1 : w4.cell? ⟨rb, 1, none⟩ = some (.int .i64 0) := (blk_cell E4.out.rb_ 1).trans rfl; have hrf1 := blk_frozen E4.out.rb_ 1; have hr2 : w4.cell? ⟨rb, 2, none⟩ = some (.int .i64 0) := (blk_cell E4.out.rb_ 2).trans rfl; have hrf2 := blk_frozen E4.out.rb_ 2; have hr3 : w4.cell? ⟨rb, 3, none⟩ = some (.string ⟨#[]⟩) := (blk_cell E4.out.rb_ 3).trans rfl; have hrf3 := blk_frozen E4.out.rb_ 3; have hsc : w4.cell? ⟨sb, 0, none⟩ = some (.string s) := HSC.out w4 E4.out.bl; have hmc : w4.cell? ⟨mb, 0, none⟩ = some (.map (some m)) := HMC.out w4 E4.out.bl
    obtain ⟨q, hq⟩ : ∃ q, spanL wrdB (c :: r) = q := ⟨_, rfl⟩
    have hqn : i + q ≤ n := by
      have h1 := span_le wrdB (c :: r)
      rw [← HDR.out, List.length_drop, HLN.out] at h1
      rw [HDR.out] at h1; omega
    obtain ⟨tx, htx⟩ : ∃ tx, lowL ((c :: r).take q) = tx := ⟨_, rfl⟩
    have HSP : Hid (Calls Tryd.prog 16 #[.string s, .int .i64 i, .func (.func 17) #[] #[]] w4 fun e w' => e = .returned (.int .i64 q) ∧ Below w4.heap.size w4 w') := by
      have h := span_ok 17 wrdB hcf17 word_ok s i w4 (by omega) (by omega)
      rw [HL.out, HDR.out, hq] at h
      exact Lib.hid h
    have HLW : Hid (∀ W : World, Calls Tryd.prog 19 #[.string (s.extract i (i + q))] W fun e w' => e = .returned (.string ⟨tx.toArray⟩) ∧ Below W.heap.size W w') := by
      have he : (s.extract i (i + q)).data.toList = (c :: r).take q := by rw [ext_list, HL.out, HDR.out]; congr 1; omega
      refine Lib.hid (fun W => ?_)
      have h := lower_ok (s.extract i (i + q)) W (by rw [ByteArray.size_extract]; omega) (fun k hk => by
        have h1 := take_all wrdB (c :: r) ((s.extract i (i + q))[k]) (by
          rw [hq, ← he]
          exact List.getElem_mem (l := (s.extract i (i + q)).data.toList) (by rw [← sz_list]; exact hk))
        exact ascii_wrd h1)
      rw [he, htx] at h
      exact h
    have HTX : Hid (tx.length = q) := by
      rw [← htx, lowL_len, List.length_take]
      have := span_le wrdB (c :: r)
      show _ = _; omega
    rw [hq, htx] at HO1
    clear hq htx
    go_upto_region 5 with (go_at_call 16; refine HSP.out.mono ?_; rintro e_ w5 ⟨rfl, hb_⟩)
    have E5 := Lib.hid (E4.out.later hb_)
    clear ht0 htf0 ht1 htf1 ht2 htf2 ht3 htf3 hr0 hrf0 hr1 hrf1 hr2 hrf2 hr3 hrf3 hsc hmc hb_
    have ht0 : w5.cell? ⟨tb, 0, none⟩ = some (.int .i64 0) := (blk_cell E5.out.tb_ 0).trans rfl; have htf0 := blk_frozen E5.out.tb_ 0; have ht1 : w5.cell? ⟨tb, 1, none⟩ = some (.int .i64 0) := (blk_cell E5.out.tb_ 1).trans rfl; have htf1 := blk_frozen E5.out.tb_ 1; have ht2 : w5.cell? ⟨tb, 2, none⟩ = some (.int .i64 i) := (blk_cell E5.out.tb_ 2).trans rfl; have htf2 := blk_frozen E5.out.tb_ 2; have ht3 : w5.cell? ⟨tb, 3, none⟩ = some (.string ⟨#[]⟩) := (blk_cell E5.out.tb_ 3).trans rfl; have htf3 := blk_frozen E5.out.tb_ 3; have hr0 : w5.cell? ⟨rb, 0, none⟩ = some (.int .i64 0) := (blk_cell E5.out.rb_ 0).trans rfl; have hrf0 := blk_frozen E5.out.rb_ 0; have hr1 : w5.cell? ⟨rb, 1, none⟩ = some (.int .i64 0) := (blk_cell E5.out.rb_ 1).trans rfl; have hrf1 := blk_frozen E5.out.rb_ 1; have hr2 : w5.cell? ⟨rb, 2, none⟩ = some (.int .i64 0) := (blk_cell E5.out.rb_ 2).trans rfl; have hrf2 := blk_frozen E5.out.rb_ 2; have hr3 : w5.cell? ⟨rb, 3, none⟩ = some (.string ⟨#[]⟩) := (blk_cell E5.out.rb_ 3).trans rfl; have hrf3 := blk_frozen E5.out.rb_ 3; have hsc : w5.cell? ⟨sb, 0, none⟩ = some (.string s) := HSC.out w5 E5.out.bl; have hmc : w5.cell? ⟨mb, 0, none⟩ = some (.map (some m)) := HMC.out w5 E5.out.bl
    have hiq : (i : Int) + q ≤ n := by omega
    have hiq1 : (i : Int) ≤ (i : Int) + q := by omega
    have hiq2 : ((i : Int) + q).toNat = i + q := by omega
    have hit : (i : Int).toNat = i := by omega
    have hwr : IntKind.i64.wrap ((i : Int) + q) = (i : Int) + q := IntWalk.i64_in _ (by omega)
    have HL5 := Lib.hid (HLW.out w5)
    go_upto_region 6 with (go_at_call 19; refine HL5.out.mono ?_; rintro e_ w6 ⟨rfl, hb_⟩; have E6 := Lib.hid (E5.out.later hb_); clear ht0 htf0 ht1 htf1 ht2 htf2 ht3 htf3 hr0 hrf0 hr1 hrf1 hr2 hrf2 hr3 hrf3 hsc hmc hb_; have ht0 : w6.cell? ⟨tb, 0, none⟩ = some (.int .i64 0) := (blk_cell E6.out.tb_ 0).trans rfl; have htf0 := blk_frozen E6.out.tb_ 0; have ht1 : w6.cell? ⟨tb, 1, none⟩ = some (.int .i64 0) := (blk_cell E6.out.tb_ 1).trans rfl; have htf1 := blk_frozen E6.out.tb_ 1; have ht2 : w6.cell? ⟨tb, 2, none⟩ = some (.int .i64 i) := (blk_cell E6.out.tb_ 2).trans rfl; have htf2 := blk_frozen E6.out.tb_ 2; have ht3 : w6.cell? ⟨tb, 3, none⟩ = some (.string ⟨#[]⟩) := (blk_cell E6.out.tb_ 3).trans rfl; have htf3 := blk_frozen E6.out.tb_ 3; have hr0 : w6.cell? ⟨rb, 0, none⟩ = some (.int .i64 0) := (blk_cell E6.out.rb_ 0).trans rfl; have hrf0 := blk_frozen E6.out.rb_ 0; have hr1 : w6.cell? ⟨rb, 1, none⟩ = some (.int .i64 0) := (blk_cell E6.out.rb_ 1).trans rfl; have hrf1 := blk_frozen E6.out.rb_ 1; have hr2 : w6.cell? ⟨rb, 2, none⟩ = some (.int .i64 0) := (blk_cell E6.out.rb_ 2).trans rfl; have hrf2 := blk_frozen E6.out.rb_ 2; have hr3 : w6.cell? ⟨rb, 3, none⟩ = some (.string ⟨#[]⟩) := (blk_cell E6.out.rb_ 3).trans rfl; have hrf3 := blk_frozen E6.out.rb_ 3; have hsc : w6.cell? ⟨sb, 0, none⟩ = some (.string s) := HSC.out w6 E6.out.bl; have hmc : w6.cell? ⟨mb, 0, none⟩ = some (.map (some m)) := HMC.out w6 E6.out.bl)
    have E7 : Hid (OEnv w rb tb 2 0 i ⟨tx.toArray⟩ 0 0 0 ⟨#[]⟩ ((w6.setCell ⟨tb, 0, none⟩ (.int .i64 2)).setCell ⟨tb, 3, none⟩ (.string ⟨tx.toArray⟩))) := (E6.out.set 0 (.int .i64 2) (k1 := 2) (n1 := 0) (a1 := i) (x1 := ⟨#[]⟩) rfl).set 3 (.string ⟨tx.toArray⟩) rfl
    generalize (w6.setCell ⟨tb, 0, none⟩ (.int .i64 2)).setCell ⟨tb, 3, none⟩ (.string ⟨tx.toArray⟩) = w7 at E7 ⊢
    clear ht0 htf0 ht1 htf1 ht2 htf2 ht3 htf3 hr0 hrf0 hr1 hrf1 hr2 hrf2 hr3 hrf3 hsc hmc
    have ht0 : w7.cell? ⟨tb, 0, none⟩ = some (.int .i64 2) := (blk_cell E7.out.tb_ 0).trans rfl; have htf0 := blk_frozen E7.out.tb_ 0; have ht1 : w7.cell? ⟨tb, 1, none⟩ = some (.int .i64 0) := (blk_cell E7.out.tb_ 1).trans rfl; have htf1 := blk_frozen E7.out.tb_ 1; have ht2 : w7.cell? ⟨tb, 2, none⟩ = some (.int .i64 i) := (blk_cell E7.out.tb_ 2).trans rfl; have htf2 := blk_frozen E7.out.tb_ 2; have ht3 : w7.cell? ⟨tb, 3, none⟩ = some (.string ⟨tx.toArray⟩) := (blk_cell E7.out.tb_ 3).trans rfl; have htf3 := blk_frozen E7.out.tb_ 3; have hr0 : w7.cell? ⟨rb, 0, none⟩ = some (.int .i64 0) := (blk_cell E7.out.rb_ 0).trans rfl; have hrf0 := blk_frozen E7.out.rb_ 0; have hr1 : w7.cell? ⟨rb, 1, none⟩ = some (.int .i64 0) := (blk_cell E7.out.rb_ 1).trans rfl; have hrf1 := blk_frozen E7.out.rb_ 1; have hr2 : w7.cell? ⟨rb, 2, none⟩ = some (.int .i64 0) := (blk_cell E7.out.rb_ 2).trans rfl; have hrf2 := blk_frozen E7.out.rb_ 2; have hr3 : w7.cell? ⟨rb, 3, none⟩ = some (.string ⟨#[]⟩) := (blk_cell E7.out.rb_ 3).trans rfl; have hrf3 := blk_frozen E7.out.rb_ 3; have hsc : w7.cell? ⟨sb, 0, none⟩ = some (.string s) := HSC.out w7 E7.out.bl; have hmc : w7.cell? ⟨mb, 0, none⟩ = some (.map (some m)) := HMC.out w7 E7.out.bl
    obtain ⟨wb, hwb⟩ : ∃ b, isWord tx = b := ⟨_, rfl⟩
    have hlk := known_look (HKN.out w7 E7.out.bl) ⟨tx.toArray⟩ (by rw [ba_size, HTX.out]; omega) tx (ba_mk _) wb hwb
    rw [hwb] at HO1
    clear hwb
    cases wb with
    | true =>
      go_upto_region 8 with fail
      clear hlk
      have E8 : Hid (OEnv w rb tb 1 0 i ⟨tx.toArray⟩ 0 0 0 ⟨#[]⟩ (w7.setCell ⟨tb, 0, none⟩ (.int .i64 1))) := E7.out.set 0 (.int .i64 1) rfl
      generalize w7.setCell ⟨tb, 0, none⟩ (.int .i64 1) = w8 at E8 ⊢
      clear ht0 htf0 ht1 htf1 ht2 htf2 ht3 htf3 hr0 hrf0 hr1 hrf1 hr2 hrf2 hr3 hrf3 hsc hmc
      have ht0 : w8.cell? ⟨tb, 0, none⟩ = some (.int .i64 1) := (blk_cell E8.out.tb_ 0).trans rfl; have htf0 := blk_frozen E8.out.tb_ 0; have ht1 : w8.cell? ⟨tb, 1, none⟩ = some (.int .i64 0) := (blk_cell E8.out.tb_ 1).trans rfl; have htf1 := blk_frozen E8.out.tb_ 1; have ht2 : w8.cell? ⟨tb, 2, none⟩ = some (.int .i64 i) := (blk_cell E8.out.tb_ 2).trans rfl; have htf2 := blk_frozen E8.out.tb_ 2; have ht3 : w8.cell? ⟨tb, 3, none⟩ = some (.string ⟨tx.toArray⟩) := (blk_cell E8.out.tb_ 3).trans rfl; have htf3 := blk_frozen E8.out.tb_ 3; have hr0 : w8.cell? ⟨rb, 0, none⟩ = some (.int .i64 0) := (blk_cell E8.out.rb_ 0).trans rfl; have hrf0 := blk_frozen E8.out.rb_ 0; have hr1 : w8.cell? ⟨rb, 1, none⟩ = some (.int .i64 0) := (blk_cell E8.out.rb_ 1).trans rfl; have hrf1 := blk_frozen E8.out.rb_ 1; have hr2 : w8.cell? ⟨rb, 2, none⟩ = some (.int .i64 0) := (blk_cell E8.out.rb_ 2).trans rfl; have hrf2 := blk_frozen E8.out.rb_ 2; have hr3 : w8.cell? ⟨rb, 3, none⟩ = some (.string ⟨#[]⟩) := (blk_cell E8.out.rb_ 3).trans rfl; have hrf3 := blk_frozen E8.out.rb_ 3; have hsc : w8.cell? ⟨sb, 0, none⟩ = some (.string s) := HSC.out w8 E8.out.bl; have hmc : w8.cell? ⟨mb, 0, none⟩ = some (.map (some m)) := HMC.out w8 E8.out.bl
      by_cases h20 : q > 20
      · have h20' : (20 : Int) < (q : Int) := by omega
        have HO2 := Lib.hid (HO1.out.trans (if_pos h20))
        go_wp2_with fail
        exact bodyPost_ret (results_cttt (p := 4) (u := 5) (v := 6) (x := 7) rfl _ _ rb 32 (tkC (1) (0) (i) (⟨tx.toArray⟩)) (0, 0) _ rfl (tk_put E8.out.rb_ (1) (0) (i) (⟨tx.toArray⟩)) Tryd.underlying32 rfl (by kernel_rfl)) rfl (one_inl HO2.out (tk_below E8.out.bl E8.out.rw_ (1) (0) (i) (⟨tx.toArray⟩)))
      · have h20' : ¬ (20 : Int) < (q : Int) := by omega
        have HO2 : Hid (oneL l i = .inr (1, 0, tx, i + q)) := Lib.hid (by have h := HO1.out; rw [if_neg h20] at h; first | exact h | simpa using h)
        go_wp2_with fail
        exact bodyPost_ret (results_cttt (p := 4) (u := 5) (v := 6) (x := 7) rfl _ _ rb 32 (tkC (1) (0) (i) (⟨tx.toArray⟩)) (0, 0) _ rfl (tk_put E8.out.rb_ (1) (0) (i) (⟨tx.toArray⟩)) Tryd.underlying32 rfl (by kernel_rfl)) rfl (one_inr (e := (i : Int) + q) HO2.out rfl (by omega) (tk_below E8.out.bl E8.out.rw_ (1) (0) (i) (⟨tx.toArray⟩)))
    | false =>
      go_upto_region 8 with fail
      clear hlk
      by_cases h20 : q > 20
      · have h20' : (20 : Int) < (q : Int) := by omega
        have HO2 := Lib.hid (HO1.out.trans (if_pos h20))
        go_wp2_with fail
        exact bodyPost_ret (results_cttt (p := 4) (u := 5) (v := 6) (x := 7) rfl _ _ rb 32 (tkC (2) (0) (i) (⟨tx.toArray⟩)) (0, 0) _ rfl (tk_put E7.out.rb_ (2) (0) (i) (⟨tx.toArray⟩)) Tryd.underlying32 rfl (by kernel_rfl)) rfl (one_inl HO2.out (tk_below E7.out.bl E7.out.rw_ (2) (0) (i) (⟨tx.toArray⟩)))
      · have h20' : ¬ (20 : Int) < (q : Int) := by omega
        have HO2 : Hid (oneL l i = .inr (2, 0, tx, i + q)) := Lib.hid (by have h := HO1.out; rw [if_neg h20] at h; first | exact h | simpa using h)
        go_wp2_with fail
        exact bodyPost_ret (results_cttt (p := 4) (u := 5) (v := 6) (x := 7) rfl _ _ rb 32 (tkC (2) (0) (i) (⟨tx.toArray⟩)) (0, 0) _ rfl (tk_put E7.out.rb_ (2) (0) (i) (⟨tx.toArray⟩)) Tryd.underlying32 rfl (by kernel_rfl)) rfl (one_inr (e := (i : Int) + q) HO2.out rfl (by omega) (tk_below E7.out.bl E7.out.rw_ (2) (0) (i) (⟨tx.toArray⟩)))
  | false =>
    have HO1 := Lib.hid (HO.out.trans (if_neg (by rw [HB1.out]; decide)))
    go_upto_region 11 with (go_at_call 15; refine HLT.out.mono ?_; rintro e_ w4 ⟨rfl, hb_⟩)
    have E4 := Lib.hid (E3.out.later hb_)
    clear ht0 htf0 ht1 htf1 ht2 htf2 ht3 htf3 hr0 hrf0 hr1 hrf1 hr2 hrf2 hr3 hrf3 hsc hmc hb_
    have ht0 : w4.cell? ⟨tb, 0, none⟩ = some (.int .i64 0) := (blk_cell E4.out.tb_ 0).trans rfl; have htf0 := blk_frozen E4.out.tb_ 0; have ht1 : w4.cell? ⟨tb, 1, none⟩ = some (.int .i64 0) := (blk_cell E4.out.tb_ 1).trans rfl; have htf1 := blk_frozen E4.out.tb_ 1; have ht2 : w4.cell? ⟨tb, 2, none⟩ = some (.int .i64 i) := (blk_cell E4.out.tb_ 2).trans rfl; have htf2 := blk_frozen E4.out.tb_ 2; have ht3 : w4.cell? ⟨tb, 3, none⟩ = some (.string ⟨#[]⟩) := (blk_cell E4.out.tb_ 3).trans rfl; have htf3 := blk_frozen E4.out.tb_ 3; have hr0 : w4.cell? ⟨rb, 0, none⟩ = some (.int .i64 0) := (blk_cell E4.out.rb_ 0).trans rfl; have hrf0 := blk_frozen E4.out.rb_ 0; have hr1 : w4.cell? ⟨rb, 1, none⟩ = some (.int .i64 0) := (blk_cell E4.out.rb_ 1).trans rfl; have hrf1 := blk_frozen E4.out.rb_ 1; have hr2 : w4.cell? ⟨rb, 2, none⟩ = some (.int .i64 0) := (blk_cell E4.out.rb_ 2).trans rfl; have hrf2 := blk_frozen E4.out.rb_ 2; have hr3 : w4.cell? ⟨rb, 3, none⟩ = some (.string ⟨#[]⟩) := (blk_cell E4.out.rb_ 3).trans rfl; have hrf3 := blk_frozen E4.out.rb_ 3; have hsc : w4.cell? ⟨sb, 0, none⟩ = some (.string s) := HSC.out w4 E4.out.bl; have hmc : w4.cell? ⟨mb, 0, none⟩ = some (.map (some m)) := HMC.out w4 E4.out.bl
    obtain ⟨b2, hb2⟩ : ∃ b, digB c = b := ⟨_, rfl⟩
    have HDG : Hid (Calls Tryd.prog 18 #[.int .u8 c.toNat] w4 fun e w' => e = .returned (.bool b2) ∧ Below w4.heap.size w4 w') := (digit_ok c w4).mono (by rintro e w' ⟨rfl, h⟩; exact ⟨by rw [hb2], h.below⟩)
    have HB2 := Lib.hid hb2
    clear hb2
    cases b2 with
    | true =>
      have HO2 := Lib.hid (HO1.out.trans (if_pos HB2.out))
      go_upto_region 12 with (go_at_call 18; refine HDG.out.mono ?_; rintro e_ w5 ⟨rfl, hb_⟩)
      have E5 := Lib.hid (E4.out.later hb_)
      clear ht0 htf0 ht1 htf1 ht2 htf2 ht3 htf3 hr0 hrf0 hr1 hrf1 hr2 hrf2 hr3 hrf3 hsc hmc hb_
      have ht0 : w5.cell? ⟨tb, 0, none⟩ = some (.int .i64 0) := (blk_cell E5.out.tb_ 0).trans rfl; have htf0 := blk_frozen E5.out.tb_ 0; have ht1 : w5.cell? ⟨tb, 1, none⟩ = some (.int .i64 0) := (blk_cell E5.out.tb_ 1).trans rfl; have htf1 := blk_frozen E5.out.tb_ 1; have ht2 : w5.cell? ⟨tb, 2, none⟩ = some (.int .i64 i) := (blk_cell E5.out.tb_ 2).trans rfl; have htf2 := blk_frozen E5.out.tb_ 2; have ht3 : w5.cell? ⟨tb, 3, none⟩ = some (.string ⟨#[]⟩) := (blk_cell E5.out.tb_ 3).trans rfl; have htf3 := blk_frozen E5.out.tb_ 3; have hr0 : w5.cell? ⟨rb, 0, none⟩ = some (.int .i64 0) := (blk_cell E5.out.rb_ 0).trans rfl; have hrf0 := blk_frozen E5.out.rb_ 0; have hr1 : w5.cell? ⟨rb, 1, none⟩ = some (.int .i64 0) := (blk_cell E5.out.rb_ 1).trans rfl; have hrf1 := blk_frozen E5.out.rb_ 1; have hr2 : w5.cell? ⟨rb, 2, none⟩ = some (.int .i64 0) := (blk_cell E5.out.rb_ 2).trans rfl; have hrf2 := blk_frozen E5.out.rb_ 2; have hr3 : w5.cell? ⟨rb, 3, none⟩ = some (.string ⟨#[]⟩) := (blk_cell E5.out.rb_ 3).trans rfl; have hrf3 := blk_frozen E5.out.rb_ 3; have hsc : w5.cell? ⟨sb, 0, none⟩ = some (.string s) := HSC.out w5 E5.out.bl; have hmc : w5.cell? ⟨mb, 0, none⟩ = some (.map (some m)) := HMC.out w5 E5.out.bl
      obtain ⟨q, hq⟩ : ∃ q, spanL digB (c :: r) = q := ⟨_, rfl⟩
      have hdl : l.drop (i) = c :: r := HDR.out
      have hqn : i + q ≤ n := by
        have h1 := span_le digB (c :: r)
        rw [← hdl, List.length_drop, HLN.out] at h1
        rw [hdl] at h1; omega
      have HSP : Hid (Calls Tryd.prog 16 #[.string s, .int .i64 (i), .func (.func 18) #[] #[]] w5 fun e w' => e = .returned (.int .i64 q) ∧ Below w5.heap.size w5 w') := by
        have h := span_ok 18 digB hcf18 digit_ok s (i) w5 (by omega) (by omega)
        rw [HL.out, hdl, hq] at h
        exact Lib.hid h
      obtain ⟨pr, hpr⟩ : ∃ p, numR ((c :: r).take q) = p := ⟨_, rfl⟩
      have HNU : Hid (∀ W : World, Calls Tryd.prog 20 #[.string (s.extract (i) (i + q))] W fun e w' => e = .returned (.tuple #[.int .i64 pr.1, .bool pr.2]) ∧ Below W.heap.size W w') := by
        have he : (s.extract (i) (i + q)).data.toList = (c :: r).take q := by rw [ext_list, HL.out, hdl]; congr 1; omega
        refine Lib.hid (fun W => ?_)
        have h := number_ok (s.extract (i) (i + q)) W (by rw [ByteArray.size_extract]; omega) (fun x hx => by rw [he, ← hq] at hx; exact take_all digB (c :: r) x hx)
        rw [he, hpr] at h
        exact h
      have HVB : Hid (∀ v, numL 0 ((c :: r).take q) = some v → 0 ≤ v ∧ v ≤ 9223372036854775807) := Lib.hid (fun v hv => numL_bound _ 0 v (fun x hx => by rw [← hq] at hx; exact take_all digB (c :: r) x hx) (by omega) (by omega) hv)
      have HPR := Lib.hid hpr; have HQ := Lib.hid hq
      clear hpr hq hdl
      go_upto_region 13 with (go_at_call 16; refine HSP.out.mono ?_; rintro e_ w6 ⟨rfl, hb_⟩)
      have E6 := Lib.hid (E5.out.later hb_)
      clear ht0 htf0 ht1 htf1 ht2 htf2 ht3 htf3 hr0 hrf0 hr1 hrf1 hr2 hrf2 hr3 hrf3 hsc hmc hb_
      have ht0 : w6.cell? ⟨tb, 0, none⟩ = some (.int .i64 0) := (blk_cell E6.out.tb_ 0).trans rfl; have htf0 := blk_frozen E6.out.tb_ 0; have ht1 : w6.cell? ⟨tb, 1, none⟩ = some (.int .i64 0) := (blk_cell E6.out.tb_ 1).trans rfl; have htf1 := blk_frozen E6.out.tb_ 1; have ht2 : w6.cell? ⟨tb, 2, none⟩ = some (.int .i64 i) := (blk_cell E6.out.tb_ 2).trans rfl; have htf2 := blk_frozen E6.out.tb_ 2; have ht3 : w6.cell? ⟨tb, 3, none⟩ = some (.string ⟨#[]⟩) := (blk_cell E6.out.tb_ 3).trans rfl; have htf3 := blk_frozen E6.out.tb_ 3; have hr0 : w6.cell? ⟨rb, 0, none⟩ = some (.int .i64 0) := (blk_cell E6.out.rb_ 0).trans rfl; have hrf0 := blk_frozen E6.out.rb_ 0; have hr1 : w6.cell? ⟨rb, 1, none⟩ = some (.int .i64 0) := (blk_cell E6.out.rb_ 1).trans rfl; have hrf1 := blk_frozen E6.out.rb_ 1; have hr2 : w6.cell? ⟨rb, 2, none⟩ = some (.int .i64 0) := (blk_cell E6.out.rb_ 2).trans rfl; have hrf2 := blk_frozen E6.out.rb_ 2; have hr3 : w6.cell? ⟨rb, 3, none⟩ = some (.string ⟨#[]⟩) := (blk_cell E6.out.rb_ 3).trans rfl; have hrf3 := blk_frozen E6.out.rb_ 3; have hsc : w6.cell? ⟨sb, 0, none⟩ = some (.string s) := HSC.out w6 E6.out.bl; have hmc : w6.cell? ⟨mb, 0, none⟩ = some (.map (some m)) := HMC.out w6 E6.out.bl
      have HNU2 := Lib.hid (HNU.out w6)
      have hiq : (i : Int) + q ≤ n := by omega
      have hiq1 : (i : Int) ≤ (i : Int) + q := by omega
      have hiq2 : ((i : Int) + q).toNat = i + q := by omega
      have hit : (i : Int).toNat = i := by omega
      have hwr : IntKind.i64.wrap ((i : Int) + q) = (i : Int) + q := IntWalk.i64_in _ (by omega)
      rw [HQ.out] at HO2
      go_upto_region 14 with (go_at_call 20; refine HNU2.out.mono ?_; rintro e_ w7 ⟨rfl, hb_⟩)
      have E7 := Lib.hid (E6.out.later hb_)
      clear ht0 htf0 ht1 htf1 ht2 htf2 ht3 htf3 hr0 hrf0 hr1 hrf1 hr2 hrf2 hr3 hrf3 hsc hmc hb_
      have ht0 : w7.cell? ⟨tb, 0, none⟩ = some (.int .i64 0) := (blk_cell E7.out.tb_ 0).trans rfl; have htf0 := blk_frozen E7.out.tb_ 0; have ht1 : w7.cell? ⟨tb, 1, none⟩ = some (.int .i64 0) := (blk_cell E7.out.tb_ 1).trans rfl; have htf1 := blk_frozen E7.out.tb_ 1; have ht2 : w7.cell? ⟨tb, 2, none⟩ = some (.int .i64 i) := (blk_cell E7.out.tb_ 2).trans rfl; have htf2 := blk_frozen E7.out.tb_ 2; have ht3 : w7.cell? ⟨tb, 3, none⟩ = some (.string ⟨#[]⟩) := (blk_cell E7.out.tb_ 3).trans rfl; have htf3 := blk_frozen E7.out.tb_ 3; have hr0 : w7.cell? ⟨rb, 0, none⟩ = some (.int .i64 0) := (blk_cell E7.out.rb_ 0).trans rfl; have hrf0 := blk_frozen E7.out.rb_ 0; have hr1 : w7.cell? ⟨rb, 1, none⟩ = some (.int .i64 0) := (blk_cell E7.out.rb_ 1).trans rfl; have hrf1 := blk_frozen E7.out.rb_ 1; have hr2 : w7.cell? ⟨rb, 2, none⟩ = some (.int .i64 0) := (blk_cell E7.out.rb_ 2).trans rfl; have hrf2 := blk_frozen E7.out.rb_ 2; have hr3 : w7.cell? ⟨rb, 3, none⟩ = some (.string ⟨#[]⟩) := (blk_cell E7.out.rb_ 3).trans rfl; have hrf3 := blk_frozen E7.out.rb_ 3; have hsc : w7.cell? ⟨sb, 0, none⟩ = some (.string s) := HSC.out w7 E7.out.bl; have hmc : w7.cell? ⟨mb, 0, none⟩ = some (.map (some m)) := HMC.out w7 E7.out.bl
      cases hnl : numL 0 ((c :: r).take q) with
      | none =>
        have hp : pr = (0, false) := by rw [← HPR.out]; unfold numR; rw [hnl]
        subst hp
        have HO3 : Hid (oneL l i = .inl (5, (i : Int))) := by have h := HO2.out; rw [hnl] at h; exact Lib.hid h
        clear hnl
        go_wp2_with fail
        exact bodyPost_ret (results_cttt (p := 4) (u := 5) (v := 6) (x := 7) rfl _ _ rb 32 (tkC (0) (0) (i) (⟨#[]⟩)) (0, 0) _ rfl (tk_put E7.out.rb_ (0) (0) (i) (⟨#[]⟩)) Tryd.underlying32 rfl (by kernel_rfl)) rfl (one_inl HO3.out (tk_below E7.out.bl E7.out.rw_ (0) (0) (i) (⟨#[]⟩)))
      | some v =>
        have hp : pr = (v, true) := by rw [← HPR.out]; unfold numR; rw [hnl]
        subst hp
        have HO3 : Hid (oneL l i = .inr (3, v, [], i + q)) := by have h := HO2.out; rw [hnl] at h; exact Lib.hid h
        clear hnl
        go_upto_region 17 with fail
        have E8 : Hid (OEnv w rb tb 3 v i ⟨#[]⟩ 0 0 0 ⟨#[]⟩ ((w7.setCell ⟨tb, 0, none⟩ (.int .i64 3)).setCell ⟨tb, 1, none⟩ (.int .i64 v))) := (E7.out.set 0 (.int .i64 3) (k1 := 3) (n1 := 0) (a1 := i) (x1 := ⟨#[]⟩) rfl).set 1 (.int .i64 v) rfl
        generalize (w7.setCell ⟨tb, 0, none⟩ (.int .i64 3)).setCell ⟨tb, 1, none⟩ (.int .i64 v) = w8 at E8 ⊢
        clear ht0 htf0 ht1 htf1 ht2 htf2 ht3 htf3 hr0 hrf0 hr1 hrf1 hr2 hrf2 hr3 hrf3 hsc hmc
        have ht0 : w8.cell? ⟨tb, 0, none⟩ = some (.int .i64 3) := (blk_cell E8.out.tb_ 0).trans rfl; have htf0 := blk_frozen E8.out.tb_ 0; have ht1 : w8.cell? ⟨tb, 1, none⟩ = some (.int .i64 v) := (blk_cell E8.out.tb_ 1).trans rfl; have htf1 := blk_frozen E8.out.tb_ 1; have ht2 : w8.cell? ⟨tb, 2, none⟩ = some (.int .i64 i) := (blk_cell E8.out.tb_ 2).trans rfl; have htf2 := blk_frozen E8.out.tb_ 2; have ht3 : w8.cell? ⟨tb, 3, none⟩ = some (.string ⟨#[]⟩) := (blk_cell E8.out.tb_ 3).trans rfl; have htf3 := blk_frozen E8.out.tb_ 3; have hr0 : w8.cell? ⟨rb, 0, none⟩ = some (.int .i64 0) := (blk_cell E8.out.rb_ 0).trans rfl; have hrf0 := blk_frozen E8.out.rb_ 0; have hr1 : w8.cell? ⟨rb, 1, none⟩ = some (.int .i64 0) := (blk_cell E8.out.rb_ 1).trans rfl; have hrf1 := blk_frozen E8.out.rb_ 1; have hr2 : w8.cell? ⟨rb, 2, none⟩ = some (.int .i64 0) := (blk_cell E8.out.rb_ 2).trans rfl; have hrf2 := blk_frozen E8.out.rb_ 2; have hr3 : w8.cell? ⟨rb, 3, none⟩ = some (.string ⟨#[]⟩) := (blk_cell E8.out.rb_ 3).trans rfl; have hrf3 := blk_frozen E8.out.rb_ 3; have hsc : w8.cell? ⟨sb, 0, none⟩ = some (.string s) := HSC.out w8 E8.out.bl; have hmc : w8.cell? ⟨mb, 0, none⟩ = some (.map (some m)) := HMC.out w8 E8.out.bl
        go_wp2_with fail
        exact bodyPost_ret (results_cttt (p := 4) (u := 5) (v := 6) (x := 7) rfl _ _ rb 32 (tkC (3) (v) (i) (⟨#[]⟩)) (0, 0) _ rfl (tk_put E8.out.rb_ (3) (v) (i) (⟨#[]⟩)) Tryd.underlying32 rfl (by kernel_rfl)) rfl (one_inr (e := (i : Int) + q) HO3.out rfl (by omega) (tk_below E8.out.bl E8.out.rw_ (3) (v) (i) (⟨#[]⟩)))
    | false =>
      have HO2 := Lib.hid (HO1.out.trans (if_neg (by rw [HB2.out]; decide)))
      go_upto_region 18 with (go_at_call 18; refine HDG.out.mono ?_; rintro e_ w5 ⟨rfl, hb_⟩)
      have E5 := Lib.hid (E4.out.later hb_)
      clear ht0 htf0 ht1 htf1 ht2 htf2 ht3 htf3 hr0 hrf0 hr1 hrf1 hr2 hrf2 hr3 hrf3 hsc hmc hb_
      have ht0 : w5.cell? ⟨tb, 0, none⟩ = some (.int .i64 0) := (blk_cell E5.out.tb_ 0).trans rfl; have htf0 := blk_frozen E5.out.tb_ 0; have ht1 : w5.cell? ⟨tb, 1, none⟩ = some (.int .i64 0) := (blk_cell E5.out.tb_ 1).trans rfl; have htf1 := blk_frozen E5.out.tb_ 1; have ht2 : w5.cell? ⟨tb, 2, none⟩ = some (.int .i64 i) := (blk_cell E5.out.tb_ 2).trans rfl; have htf2 := blk_frozen E5.out.tb_ 2; have ht3 : w5.cell? ⟨tb, 3, none⟩ = some (.string ⟨#[]⟩) := (blk_cell E5.out.tb_ 3).trans rfl; have htf3 := blk_frozen E5.out.tb_ 3; have hr0 : w5.cell? ⟨rb, 0, none⟩ = some (.int .i64 0) := (blk_cell E5.out.rb_ 0).trans rfl; have hrf0 := blk_frozen E5.out.rb_ 0; have hr1 : w5.cell? ⟨rb, 1, none⟩ = some (.int .i64 0) := (blk_cell E5.out.rb_ 1).trans rfl; have hrf1 := blk_frozen E5.out.rb_ 1; have hr2 : w5.cell? ⟨rb, 2, none⟩ = some (.int .i64 0) := (blk_cell E5.out.rb_ 2).trans rfl; have hrf2 := blk_frozen E5.out.rb_ 2; have hr3 : w5.cell? ⟨rb, 3, none⟩ = some (.string ⟨#[]⟩) := (blk_cell E5.out.rb_ 3).trans rfl; have hrf3 := blk_frozen E5.out.rb_ 3; have hsc : w5.cell? ⟨sb, 0, none⟩ = some (.string s) := HSC.out w5 E5.out.bl; have hmc : w5.cell? ⟨mb, 0, none⟩ = some (.map (some m)) := HMC.out w5 E5.out.bl
      have hbyte : ∀ (k : UInt8), ((c.toNat : Int) == (k.toNat : Int)) = decide (c = k) := fun k => by
        rw [Bool.eq_iff_iff, beq_iff_eq, decide_eq_true_eq]
        exact ⟨fun h => UInt8.toNat_inj.1 (by omega), fun h => by rw [h]⟩
      have HBY := Lib.hid hbyte; clear hbyte
      by_cases h39 : c = 39
      · have b39 : ((c.toNat : Int) == 39) = true := (HBY.out 39).trans (decide_eq_true h39)
        have HO3 := Lib.hid (HO2.out.trans (if_pos h39))
        obtain ⟨pq, hpq⟩ : ∃ p, quotR [] r (i + 1) = p := ⟨_, rfl⟩
        have HQU : Hid (Calls Tryd.prog 21 #[.string s, .int .i64 i] w5 fun e w' => e = .returned (.tuple #[.string pq.1, .int .i64 pq.2.1, .bool pq.2.2]) ∧ Below w5.heap.size w5 w') := by
          have h := quoted_ok s i w5 (by omega) (by omega)
          rw [HL.out, drop_next HDR.out, hpq] at h
          exact Lib.hid h
        have HPQ := Lib.hid hpq
        clear hpq h39
        go_upto_region 20 with (go_at_call 21; refine HQU.out.mono ?_; rintro e_ w6 ⟨rfl, hb_⟩)
        have E6 := Lib.hid (E5.out.later hb_)
        clear ht0 htf0 ht1 htf1 ht2 htf2 ht3 htf3 hr0 hrf0 hr1 hrf1 hr2 hrf2 hr3 hrf3 hsc hmc hb_
        have ht0 : w6.cell? ⟨tb, 0, none⟩ = some (.int .i64 0) := (blk_cell E6.out.tb_ 0).trans rfl; have htf0 := blk_frozen E6.out.tb_ 0; have ht1 : w6.cell? ⟨tb, 1, none⟩ = some (.int .i64 0) := (blk_cell E6.out.tb_ 1).trans rfl; have htf1 := blk_frozen E6.out.tb_ 1; have ht2 : w6.cell? ⟨tb, 2, none⟩ = some (.int .i64 i) := (blk_cell E6.out.tb_ 2).trans rfl; have htf2 := blk_frozen E6.out.tb_ 2; have ht3 : w6.cell? ⟨tb, 3, none⟩ = some (.string ⟨#[]⟩) := (blk_cell E6.out.tb_ 3).trans rfl; have htf3 := blk_frozen E6.out.tb_ 3; have hr0 : w6.cell? ⟨rb, 0, none⟩ = some (.int .i64 0) := (blk_cell E6.out.rb_ 0).trans rfl; have hrf0 := blk_frozen E6.out.rb_ 0; have hr1 : w6.cell? ⟨rb, 1, none⟩ = some (.int .i64 0) := (blk_cell E6.out.rb_ 1).trans rfl; have hrf1 := blk_frozen E6.out.rb_ 1; have hr2 : w6.cell? ⟨rb, 2, none⟩ = some (.int .i64 0) := (blk_cell E6.out.rb_ 2).trans rfl; have hrf2 := blk_frozen E6.out.rb_ 2; have hr3 : w6.cell? ⟨rb, 3, none⟩ = some (.string ⟨#[]⟩) := (blk_cell E6.out.rb_ 3).trans rfl; have hrf3 := blk_frozen E6.out.rb_ 3; have hsc : w6.cell? ⟨sb, 0, none⟩ = some (.string s) := HSC.out w6 E6.out.bl; have hmc : w6.cell? ⟨mb, 0, none⟩ = some (.map (some m)) := HMC.out w6 E6.out.bl
        cases hql : quotL r with
        | none =>
          have hp : pq = (⟨#[]⟩, 0, false) := by rw [← HPQ.out]; unfold quotR; rw [hql]
          subst hp
          have HO4 : Hid (oneL l i = .inl (6, (n : Int))) := by have h := HO3.out; rw [hql] at h; rw [HLN.out] at h; exact Lib.hid h
          clear hql
          go_upto_region 21 with fail
          have hsr : sb ≠ rb := by have := HSB.out; have := E6.out.rw_; omega
          have hrs : rb ≠ sb := Ne.symm hsr
          go_region
          go_wp2_with fail
          exact bodyPost_ret (results_cttt (p := 4) (u := 5) (v := 6) (x := 7) rfl _ _ rb 32 (tkC (0) (0) (i) (⟨#[]⟩)) (0, 0) _ rfl (tk_put (oenv_drew E6.out).rb_ (0) (0) (i) (⟨#[]⟩)) Tryd.underlying32 rfl (by kernel_rfl)) rfl (one_inl HO4.out (tk_below (oenv_drew E6.out).bl (oenv_drew E6.out).rw_ (0) (0) (i) (⟨#[]⟩)))
        | some p =>
          have hp : pq = (⟨p.1.toArray⟩, ((i + 1 + p.2 : Nat) : Int), true) := by rw [← HPQ.out]; unfold quotR; rw [hql]; rfl
          subst hp
          have hsz := ba_size p.1
          obtain ⟨z, hz⟩ : ∃ z, p.1.length = z := ⟨_, rfl⟩
          rw [hz] at hsz
          obtain ⟨u, hu⟩ : ∃ u : Nat, i + 1 + p.2 = u := ⟨_, rfl⟩
          rw [hu]
          by_cases h40 : z > 40
          · have h40' : (40 : Int) < (z : Int) := by omega
            have HO4 : Hid (oneL l i = .inl (5, (i : Int))) := by have h := HO3.out; rw [hql] at h; simp only [hz, if_pos h40] at h; exact Lib.hid h
            clear hql hz hu
            go_wp2_with fail
            exact bodyPost_ret (results_cttt (p := 4) (u := 5) (v := 6) (x := 7) rfl _ _ rb 32 (tkC (0) (0) (i) (⟨#[]⟩)) (0, 0) _ rfl (tk_put E6.out.rb_ (0) (0) (i) (⟨#[]⟩)) Tryd.underlying32 rfl (by kernel_rfl)) rfl (one_inl HO4.out (tk_below E6.out.bl E6.out.rw_ (0) (0) (i) (⟨#[]⟩)))
          · have h40' : ¬ (40 : Int) < (z : Int) := by omega
            have HO4 : Hid (oneL l i = .inr (4, 0, p.1, u)) := by have h := HO3.out; rw [hql] at h; simp only [hz, if_neg h40, hu] at h; exact Lib.hid h
            clear hql hz hu
            go_upto_region 25 with fail
            have E8 : Hid (OEnv w rb tb 4 0 i ⟨p.1.toArray⟩ 0 0 0 ⟨#[]⟩ ((w6.setCell ⟨tb, 0, none⟩ (.int .i64 4)).setCell ⟨tb, 3, none⟩ (.string ⟨p.1.toArray⟩))) := (E6.out.set 0 (.int .i64 4) (k1 := 4) (n1 := 0) (a1 := i) (x1 := ⟨#[]⟩) rfl).set 3 (.string ⟨p.1.toArray⟩) rfl
            generalize (w6.setCell ⟨tb, 0, none⟩ (.int .i64 4)).setCell ⟨tb, 3, none⟩ (.string ⟨p.1.toArray⟩) = w8 at E8 ⊢
            clear ht0 htf0 ht1 htf1 ht2 htf2 ht3 htf3 hr0 hrf0 hr1 hrf1 hr2 hrf2 hr3 hrf3 hsc hmc
            have ht0 : w8.cell? ⟨tb, 0, none⟩ = some (.int .i64 4) := (blk_cell E8.out.tb_ 0).trans rfl; have htf0 := blk_frozen E8.out.tb_ 0; have ht1 : w8.cell? ⟨tb, 1, none⟩ = some (.int .i64 0) := (blk_cell E8.out.tb_ 1).trans rfl; have htf1 := blk_frozen E8.out.tb_ 1; have ht2 : w8.cell? ⟨tb, 2, none⟩ = some (.int .i64 i) := (blk_cell E8.out.tb_ 2).trans rfl; have htf2 := blk_frozen E8.out.tb_ 2; have ht3 : w8.cell? ⟨tb, 3, none⟩ = some (.string ⟨p.1.toArray⟩) := (blk_cell E8.out.tb_ 3).trans rfl; have htf3 := blk_frozen E8.out.tb_ 3; have hr0 : w8.cell? ⟨rb, 0, none⟩ = some (.int .i64 0) := (blk_cell E8.out.rb_ 0).trans rfl; have hrf0 := blk_frozen E8.out.rb_ 0; have hr1 : w8.cell? ⟨rb, 1, none⟩ = some (.int .i64 0) := (blk_cell E8.out.rb_ 1).trans rfl; have hrf1 := blk_frozen E8.out.rb_ 1; have hr2 : w8.cell? ⟨rb, 2, none⟩ = some (.int .i64 0) := (blk_cell E8.out.rb_ 2).trans rfl; have hrf2 := blk_frozen E8.out.rb_ 2; have hr3 : w8.cell? ⟨rb, 3, none⟩ = some (.string ⟨#[]⟩) := (blk_cell E8.out.rb_ 3).trans rfl; have hrf3 := blk_frozen E8.out.rb_ 3; have hsc : w8.cell? ⟨sb, 0, none⟩ = some (.string s) := HSC.out w8 E8.out.bl; have hmc : w8.cell? ⟨mb, 0, none⟩ = some (.map (some m)) := HMC.out w8 E8.out.bl
            go_wp2_with fail
            exact bodyPost_ret (results_cttt (p := 4) (u := 5) (v := 6) (x := 7) rfl _ _ rb 32 (tkC (4) (0) (i) (⟨p.1.toArray⟩)) (0, 0) _ rfl (tk_put E8.out.rb_ (4) (0) (i) (⟨p.1.toArray⟩)) Tryd.underlying32 rfl (by kernel_rfl)) rfl (one_inr (e := (u : Int)) HO4.out rfl rfl (tk_below E8.out.bl E8.out.rw_ (4) (0) (i) (⟨p.1.toArray⟩)))
      · have b39 : ((c.toNat : Int) == 39) = false := (HBY.out 39).trans (decide_eq_false h39)
        have HO3 := Lib.hid (HO2.out.trans (if_neg h39))
        clear h39
        go_upto_region 26 with fail
        by_cases h36 : c = 36
        · have b36 : ((c.toNat : Int) == 36) = true := (HBY.out 36).trans (decide_eq_true h36)
          have HO4 := Lib.hid (HO3.out.trans (if_pos h36))
          clear h36
          have hw1 : IntKind.i64.wrap ((i : Int) + 1) = (i : Int) + 1 := IntWalk.i64_in _ (by omega)
          have hi1 : (0 : Int) ≤ (i : Int) + 1 := by omega
          obtain ⟨q, hq⟩ : ∃ q, spanL digB (r) = q := ⟨_, rfl⟩
          have hdl : l.drop (i + 1) = r := drop_next HDR.out
          have hqn : i + 1 + q ≤ n := by
            have h1 := span_le digB (r)
            rw [← hdl, List.length_drop, HLN.out] at h1
            rw [hdl] at h1; omega
          have HSP : Hid (Calls Tryd.prog 16 #[.string s, .int .i64 ((i : Int) + 1), .func (.func 18) #[] #[]] w5 fun e w' => e = .returned (.int .i64 q) ∧ Below w5.heap.size w5 w') := by
            have h := span_ok 18 digB hcf18 digit_ok s (i + 1) w5 (by omega) (by omega)
            rw [HL.out, hdl, hq] at h
            exact Lib.hid h
          obtain ⟨pr, hpr⟩ : ∃ p, numR ((r).take q) = p := ⟨_, rfl⟩
          have HNU : Hid (∀ W : World, Calls Tryd.prog 20 #[.string (s.extract (i + 1) (i + 1 + q))] W fun e w' => e = .returned (.tuple #[.int .i64 pr.1, .bool pr.2]) ∧ Below W.heap.size W w') := by
            have he : (s.extract (i + 1) (i + 1 + q)).data.toList = (r).take q := by rw [ext_list, HL.out, hdl]; congr 1; omega
            refine Lib.hid (fun W => ?_)
            have h := number_ok (s.extract (i + 1) (i + 1 + q)) W (by rw [ByteArray.size_extract]; omega) (fun x hx => by rw [he, ← hq] at hx; exact take_all digB (r) x hx)
            rw [he, hpr] at h
            exact h
          have HVB : Hid (∀ v, numL 0 ((r).take q) = some v → 0 ≤ v ∧ v ≤ 9223372036854775807) := Lib.hid (fun v hv => numL_bound _ 0 v (fun x hx => by rw [← hq] at hx; exact take_all digB (r) x hx) (by omega) (by omega) hv)
          have HPR := Lib.hid hpr; have HQ := Lib.hid hq
          clear hpr hq hdl
          go_upto_region 28 with (go_at_call 16; refine HSP.out.mono ?_; rintro e_ w6 ⟨rfl, hb_⟩)
          have E6 := Lib.hid (E5.out.later hb_)
          clear ht0 htf0 ht1 htf1 ht2 htf2 ht3 htf3 hr0 hrf0 hr1 hrf1 hr2 hrf2 hr3 hrf3 hsc hmc hb_
          have ht0 : w6.cell? ⟨tb, 0, none⟩ = some (.int .i64 0) := (blk_cell E6.out.tb_ 0).trans rfl; have htf0 := blk_frozen E6.out.tb_ 0; have ht1 : w6.cell? ⟨tb, 1, none⟩ = some (.int .i64 0) := (blk_cell E6.out.tb_ 1).trans rfl; have htf1 := blk_frozen E6.out.tb_ 1; have ht2 : w6.cell? ⟨tb, 2, none⟩ = some (.int .i64 i) := (blk_cell E6.out.tb_ 2).trans rfl; have htf2 := blk_frozen E6.out.tb_ 2; have ht3 : w6.cell? ⟨tb, 3, none⟩ = some (.string ⟨#[]⟩) := (blk_cell E6.out.tb_ 3).trans rfl; have htf3 := blk_frozen E6.out.tb_ 3; have hr0 : w6.cell? ⟨rb, 0, none⟩ = some (.int .i64 0) := (blk_cell E6.out.rb_ 0).trans rfl; have hrf0 := blk_frozen E6.out.rb_ 0; have hr1 : w6.cell? ⟨rb, 1, none⟩ = some (.int .i64 0) := (blk_cell E6.out.rb_ 1).trans rfl; have hrf1 := blk_frozen E6.out.rb_ 1; have hr2 : w6.cell? ⟨rb, 2, none⟩ = some (.int .i64 0) := (blk_cell E6.out.rb_ 2).trans rfl; have hrf2 := blk_frozen E6.out.rb_ 2; have hr3 : w6.cell? ⟨rb, 3, none⟩ = some (.string ⟨#[]⟩) := (blk_cell E6.out.rb_ 3).trans rfl; have hrf3 := blk_frozen E6.out.rb_ 3; have hsc : w6.cell? ⟨sb, 0, none⟩ = some (.string s) := HSC.out w6 E6.out.bl; have hmc : w6.cell? ⟨mb, 0, none⟩ = some (.map (some m)) := HMC.out w6 E6.out.bl
          have HNU2 := Lib.hid (HNU.out w6)
          have hiq : (i : Int) + 1 + q ≤ n := by omega
          have hiq1 : (i : Int) + 1 ≤ (i : Int) + 1 + q := by omega
          have hiq2 : ((i : Int) + 1 + q).toNat = i + 1 + q := by omega
          have hit : ((i : Int) + 1).toNat = i + 1 := by omega
          have hiq3 : (0 : Int) ≤ (i : Int) + 1 + q := by omega
          have hwr : IntKind.i64.wrap ((i : Int) + 1 + q) = (i : Int) + 1 + q := IntWalk.i64_in _ (by omega)
          rw [HQ.out] at HO4
          go_upto_region 29 with (go_at_call 20; refine HNU2.out.mono ?_; rintro e_ w7 ⟨rfl, hb_⟩)
          have E7 := Lib.hid (E6.out.later hb_)
          clear ht0 htf0 ht1 htf1 ht2 htf2 ht3 htf3 hr0 hrf0 hr1 hrf1 hr2 hrf2 hr3 hrf3 hsc hmc hb_
          have ht0 : w7.cell? ⟨tb, 0, none⟩ = some (.int .i64 0) := (blk_cell E7.out.tb_ 0).trans rfl; have htf0 := blk_frozen E7.out.tb_ 0; have ht1 : w7.cell? ⟨tb, 1, none⟩ = some (.int .i64 0) := (blk_cell E7.out.tb_ 1).trans rfl; have htf1 := blk_frozen E7.out.tb_ 1; have ht2 : w7.cell? ⟨tb, 2, none⟩ = some (.int .i64 i) := (blk_cell E7.out.tb_ 2).trans rfl; have htf2 := blk_frozen E7.out.tb_ 2; have ht3 : w7.cell? ⟨tb, 3, none⟩ = some (.string ⟨#[]⟩) := (blk_cell E7.out.tb_ 3).trans rfl; have htf3 := blk_frozen E7.out.tb_ 3; have hr0 : w7.cell? ⟨rb, 0, none⟩ = some (.int .i64 0) := (blk_cell E7.out.rb_ 0).trans rfl; have hrf0 := blk_frozen E7.out.rb_ 0; have hr1 : w7.cell? ⟨rb, 1, none⟩ = some (.int .i64 0) := (blk_cell E7.out.rb_ 1).trans rfl; have hrf1 := blk_frozen E7.out.rb_ 1; have hr2 : w7.cell? ⟨rb, 2, none⟩ = some (.int .i64 0) := (blk_cell E7.out.rb_ 2).trans rfl; have hrf2 := blk_frozen E7.out.rb_ 2; have hr3 : w7.cell? ⟨rb, 3, none⟩ = some (.string ⟨#[]⟩) := (blk_cell E7.out.rb_ 3).trans rfl; have hrf3 := blk_frozen E7.out.rb_ 3; have hsc : w7.cell? ⟨sb, 0, none⟩ = some (.string s) := HSC.out w7 E7.out.bl; have hmc : w7.cell? ⟨mb, 0, none⟩ = some (.map (some m)) := HMC.out w7 E7.out.bl
          by_cases hq0 : q = 0
          · have bq : ((q : Int) == 0) = true := by rw [hq0]; rfl
            have HO5 := Lib.hid (HO4.out.trans (if_pos hq0))
            clear hq0
            go_wp2_with fail
            exact bodyPost_ret (results_cttt (p := 4) (u := 5) (v := 6) (x := 7) rfl _ _ rb 32 (tkC (0) (0) (i) (⟨#[]⟩)) (0, 0) _ rfl (tk_put E7.out.rb_ (0) (0) (i) (⟨#[]⟩)) Tryd.underlying32 rfl (by kernel_rfl)) rfl (one_inl HO5.out (tk_below E7.out.bl E7.out.rw_ (0) (0) (i) (⟨#[]⟩)))
          · have bq : ((q : Int) == 0) = false := beq_eq_false_iff_ne.mpr (by omega)
            have bq2 : (q == 0) = false := beq_eq_false_iff_ne.mpr hq0
            have HO5 := Lib.hid (HO4.out.trans (if_neg hq0))
            clear hq0
            cases hnl : numL 0 (r.take q) with
            | none =>
              have hp : pr = (0, false) := by rw [← HPR.out]; unfold numR; rw [hnl]
              subst hp
              have HO6 : Hid (oneL l i = .inl (5, (i : Int))) := by have h := HO5.out; rw [hnl] at h; exact Lib.hid h
              clear hnl
              go_wp2_with fail
              exact bodyPost_ret (results_cttt (p := 4) (u := 5) (v := 6) (x := 7) rfl _ _ rb 32 (tkC (0) (0) (i) (⟨#[]⟩)) (0, 0) _ rfl (tk_put E7.out.rb_ (0) (0) (i) (⟨#[]⟩)) Tryd.underlying32 rfl (by kernel_rfl)) rfl (one_inl HO6.out (tk_below E7.out.bl E7.out.rw_ (0) (0) (i) (⟨#[]⟩)))
            | some v =>
              have hp : pr = (v, true) := by rw [← HPR.out]; unfold numR; rw [hnl]
              subst hp
              obtain ⟨hv0, hv1⟩ := HVB.out v hnl
              by_cases hv : v < 1 ∨ v > 4
              · have HO6 : Hid (oneL l i = .inl (5, (i : Int))) := by have h := HO5.out; rw [hnl] at h; simp only [if_pos hv] at h; exact Lib.hid h
                clear hnl
                by_cases hlo : v < 1
                · clear hv
                  go_wp2_with fail
                  exact bodyPost_ret (results_cttt (p := 4) (u := 5) (v := 6) (x := 7) rfl _ _ rb 32 (tkC (0) (0) (i) (⟨#[]⟩)) (0, 0) _ rfl (tk_put E7.out.rb_ (0) (0) (i) (⟨#[]⟩)) Tryd.underlying32 rfl (by kernel_rfl)) rfl (one_inl HO6.out (tk_below E7.out.bl E7.out.rw_ (0) (0) (i) (⟨#[]⟩)))
                · have hhi : 4 < v := by omega
                  clear hv
                  go_wp2_with fail
                  exact bodyPost_ret (results_cttt (p := 4) (u := 5) (v := 6) (x := 7) rfl _ _ rb 32 (tkC (0) (0) (i) (⟨#[]⟩)) (0, 0) _ rfl (tk_put E7.out.rb_ (0) (0) (i) (⟨#[]⟩)) Tryd.underlying32 rfl (by kernel_rfl)) rfl (one_inl HO6.out (tk_below E7.out.bl E7.out.rw_ (0) (0) (i) (⟨#[]⟩)))
              · have HO6 : Hid (oneL l i = .inr (5, v, [], i + 1 + q)) := by have h := HO5.out; rw [hnl] at h; simp only [if_neg hv] at h; exact Lib.hid h
                have hlo : ¬ v < 1 := by omega
                have hhi : ¬ 4 < v := by omega
                clear hnl hv
                go_upto_region 34 with fail
                have E8 : Hid (OEnv w rb tb 5 v i ⟨#[]⟩ 0 0 0 ⟨#[]⟩ ((w7.setCell ⟨tb, 0, none⟩ (.int .i64 5)).setCell ⟨tb, 1, none⟩ (.int .i64 v))) := (E7.out.set 0 (.int .i64 5) (k1 := 5) (n1 := 0) (a1 := i) (x1 := ⟨#[]⟩) rfl).set 1 (.int .i64 v) rfl
                generalize (w7.setCell ⟨tb, 0, none⟩ (.int .i64 5)).setCell ⟨tb, 1, none⟩ (.int .i64 v) = w8 at E8 ⊢
                clear ht0 htf0 ht1 htf1 ht2 htf2 ht3 htf3 hr0 hrf0 hr1 hrf1 hr2 hrf2 hr3 hrf3 hsc hmc
                have ht0 : w8.cell? ⟨tb, 0, none⟩ = some (.int .i64 5) := (blk_cell E8.out.tb_ 0).trans rfl; have htf0 := blk_frozen E8.out.tb_ 0; have ht1 : w8.cell? ⟨tb, 1, none⟩ = some (.int .i64 v) := (blk_cell E8.out.tb_ 1).trans rfl; have htf1 := blk_frozen E8.out.tb_ 1; have ht2 : w8.cell? ⟨tb, 2, none⟩ = some (.int .i64 i) := (blk_cell E8.out.tb_ 2).trans rfl; have htf2 := blk_frozen E8.out.tb_ 2; have ht3 : w8.cell? ⟨tb, 3, none⟩ = some (.string ⟨#[]⟩) := (blk_cell E8.out.tb_ 3).trans rfl; have htf3 := blk_frozen E8.out.tb_ 3; have hr0 : w8.cell? ⟨rb, 0, none⟩ = some (.int .i64 0) := (blk_cell E8.out.rb_ 0).trans rfl; have hrf0 := blk_frozen E8.out.rb_ 0; have hr1 : w8.cell? ⟨rb, 1, none⟩ = some (.int .i64 0) := (blk_cell E8.out.rb_ 1).trans rfl; have hrf1 := blk_frozen E8.out.rb_ 1; have hr2 : w8.cell? ⟨rb, 2, none⟩ = some (.int .i64 0) := (blk_cell E8.out.rb_ 2).trans rfl; have hrf2 := blk_frozen E8.out.rb_ 2; have hr3 : w8.cell? ⟨rb, 3, none⟩ = some (.string ⟨#[]⟩) := (blk_cell E8.out.rb_ 3).trans rfl; have hrf3 := blk_frozen E8.out.rb_ 3; have hsc : w8.cell? ⟨sb, 0, none⟩ = some (.string s) := HSC.out w8 E8.out.bl; have hmc : w8.cell? ⟨mb, 0, none⟩ = some (.map (some m)) := HMC.out w8 E8.out.bl
                go_wp2_with fail
                exact bodyPost_ret (results_cttt (p := 4) (u := 5) (v := 6) (x := 7) rfl _ _ rb 32 (tkC (5) (v) (i) (⟨#[]⟩)) (0, 0) _ rfl (tk_put E8.out.rb_ (5) (v) (i) (⟨#[]⟩)) Tryd.underlying32 rfl (by kernel_rfl)) rfl (one_inr (e := (i : Int) + 1 + q) HO6.out rfl (by omega) (tk_below E8.out.bl E8.out.rw_ (5) (v) (i) (⟨#[]⟩)))
        · have b36 : ((c.toNat : Int) == 36) = false := (HBY.out 36).trans (decide_eq_false h36)
          have HO4 := Lib.hid (HO3.out.trans (if_neg h36))
          clear h36
          have hln0 : Hid (∀ g ∈ signsL, g.length ≤ 2) := by show ∀ g ∈ signsL, _; decide
          obtain ⟨pf, hpf⟩ : ∃ f : List UInt8 → Bool, f = fun g => g.isPrefixOf (c :: r) := ⟨_, rfl⟩
          have HPFX : Hid (∀ (g : List UInt8) (W : World), g.length ≤ 2 → Calls Tryd.prog 22 #[.string (s.extract i n), .string ⟨g.toArray⟩] W fun e w' => e = .returned (.bool (pf g)) ∧ W = w') := by
            refine Lib.hid (fun g W hg => ?_)
            have h := prefix_ok (s.extract i n) ⟨g.toArray⟩ W (by rw [ByteArray.size_extract]; omega) (by rw [ba_size]; omega)
            have he : (s.extract i n).data.toList = c :: r := by
              rw [ext_list, HL.out, HDR.out, List.take_of_length_le]
              have h1 := congrArg List.length HDR.out
              rw [List.length_drop, HLN.out] at h1
              omega
            rw [he, ba_mk] at h
            rw [hpf]; exact h
          have HSG : Hid (signL (c :: r) = signsL.find? pf) := by rw [hpf]; exact Lib.hid rfl
          rw [HSG.out] at HO4
          clear hpf HSG
          have hit : (i : Int).toNat = i := by omega
          go_upto_region 36 with fail
          obtain ⟨g, hg⟩ : ∃ g, w5.heap.size = g := ⟨_, rfl⟩
          have E6 : Hid (OEnv w rb tb 0 0 i ⟨#[]⟩ 0 0 0 ⟨#[]⟩ (w5.alloc (.cells signsV 9))) := Lib.hid (E5.out.later (below_alloc (Below.refl _ w5) _))
          have HG : Hid ((w5.alloc (.cells signsV 9)).heap[g]? = some (.cells signsV 9 (0, 0))) := by
            rw [← hg]; exact Lib.hid (heap_alloc_new w5 _)
          rw [hg]
          change Code.wp _ _ _ _ (w5.alloc (.cells signsV 9))
          generalize w5.alloc (.cells signsV 9) = w6 at E6 HG ⊢
          clear hg
          go_loopw [156, 21] (fun v156 _ wr => ∃ k : Nat, k ≤ 14 ∧ v156 = .int .i64 k ∧ Hid (OEnv w rb tb 0 0 i ⟨#[]⟩ 0 0 0 ⟨#[]⟩ wr) ∧ Hid (wr.heap[g]? = some (.cells signsV 9 (0, 0))) ∧ Hid (∀ x ∈ signsL.take k, pf x = false)) (fun v _ _ => 14 - (intOf v).toNat)
          case atStart => exact ⟨0, Nat.zero_le _, rfl, E6, HG, Lib.hid (by intro x hx; simp at hx)⟩
          case round =>
            clear E6 HG
            obtain ⟨k, hk, rfl, E6, HG, HF⟩ := hrel
            by_cases hlt : k < 14
            · have hkl : k < signsL.length := hlt
              have hlt' : (k : Int) < 14 := by omega
              obtain ⟨x, hx⟩ : ∃ x, signsL[k] = x := ⟨_, rfl⟩
              have hcell : wr.cell? ⟨g, k, none⟩ = some (.string ⟨x.toArray⟩) := by
                rw [blk_cell HG.out k]; simp [signsV, hkl, hx]
              have HPX := Lib.hid (HPFX.out x wr (hln0.out x (hx ▸ List.getElem_mem hkl)))
              have hsz := ba_size x
              obtain ⟨z, hz⟩ : ∃ z, x.length = z := ⟨_, rfl⟩
              rw [hz] at hsz
              have hz2 : z ≤ 2 := by have := hln0.out x (hx ▸ List.getElem_mem hkl); omega
              have HZ := Lib.hid hz; have HX := Lib.hid hx
              have hwr : IntKind.i64.wrap ((i : Int) + z) = (i : Int) + z := IntWalk.i64_in _ (by omega)
              clear hz hx
              obtain ⟨b, hb⟩ : ∃ b, pf x = b := ⟨_, rfl⟩
              rw [hb] at HPX
              have HB := Lib.hid hb
              clear hb
              have ht0 : wr.cell? ⟨tb, 0, none⟩ = some (.int .i64 0) := (blk_cell E6.out.tb_ 0).trans rfl; have htf0 := blk_frozen E6.out.tb_ 0; have ht1 : wr.cell? ⟨tb, 1, none⟩ = some (.int .i64 0) := (blk_cell E6.out.tb_ 1).trans rfl; have htf1 := blk_frozen E6.out.tb_ 1; have ht2 : wr.cell? ⟨tb, 2, none⟩ = some (.int .i64 i) := (blk_cell E6.out.tb_ 2).trans rfl; have htf2 := blk_frozen E6.out.tb_ 2; have ht3 : wr.cell? ⟨tb, 3, none⟩ = some (.string ⟨#[]⟩) := (blk_cell E6.out.tb_ 3).trans rfl; have htf3 := blk_frozen E6.out.tb_ 3; have hr0 : wr.cell? ⟨rb, 0, none⟩ = some (.int .i64 0) := (blk_cell E6.out.rb_ 0).trans rfl; have hrf0 := blk_frozen E6.out.rb_ 0; have hr1 : wr.cell? ⟨rb, 1, none⟩ = some (.int .i64 0) := (blk_cell E6.out.rb_ 1).trans rfl; have hrf1 := blk_frozen E6.out.rb_ 1; have hr2 : wr.cell? ⟨rb, 2, none⟩ = some (.int .i64 0) := (blk_cell E6.out.rb_ 2).trans rfl; have hrf2 := blk_frozen E6.out.rb_ 2; have hr3 : wr.cell? ⟨rb, 3, none⟩ = some (.string ⟨#[]⟩) := (blk_cell E6.out.rb_ 3).trans rfl; have hrf3 := blk_frozen E6.out.rb_ 3; have hsc : wr.cell? ⟨sb, 0, none⟩ = some (.string s) := HSC.out wr E6.out.bl; have hmc : wr.cell? ⟨mb, 0, none⟩ = some (.map (some m)) := HMC.out wr E6.out.bl
              cases b with
              | true =>
                have HO5 : Hid (oneL l i = .inr (6, 0, x, i + z)) := Lib.hid (by
                  have h := HO4.out
                  have hf : signsL.find? pf = some x := by
                    rw [List.find?_eq_some_iff_getElem]
                    refine ⟨HB.out, k, hkl, HX.out, fun j hj => ?_⟩
                    have := HF.out signsL[j] (List.mem_take_iff_getElem.2 ⟨j, by omega, rfl⟩)
                    rw [this]; rfl
                  rw [hf] at h
                  rw [h, ← HZ.out])
                go_upto_region 40 with (go_at_call 22; refine HPX.out.mono ?_; rintro e_ w7 ⟨rfl, rfl⟩)
                have E8 : Hid (OEnv w rb tb 6 0 i ⟨x.toArray⟩ 0 0 0 ⟨#[]⟩ ((wr.setCell ⟨tb, 0, none⟩ (.int .i64 6)).setCell ⟨tb, 3, none⟩ (.string ⟨x.toArray⟩))) := (E6.out.set 0 (.int .i64 6) (k1 := 6) (n1 := 0) (a1 := i) (x1 := ⟨#[]⟩) rfl).set 3 (.string ⟨x.toArray⟩) rfl
                generalize (wr.setCell ⟨tb, 0, none⟩ (.int .i64 6)).setCell ⟨tb, 3, none⟩ (.string ⟨x.toArray⟩) = w8 at E8 ⊢
                clear ht0 htf0 ht1 htf1 ht2 htf2 ht3 htf3 hr0 hrf0 hr1 hrf1 hr2 hrf2 hr3 hrf3 hsc hmc hcell
                have ht0 : w8.cell? ⟨tb, 0, none⟩ = some (.int .i64 6) := (blk_cell E8.out.tb_ 0).trans rfl; have htf0 := blk_frozen E8.out.tb_ 0; have ht1 : w8.cell? ⟨tb, 1, none⟩ = some (.int .i64 0) := (blk_cell E8.out.tb_ 1).trans rfl; have htf1 := blk_frozen E8.out.tb_ 1; have ht2 : w8.cell? ⟨tb, 2, none⟩ = some (.int .i64 i) := (blk_cell E8.out.tb_ 2).trans rfl; have htf2 := blk_frozen E8.out.tb_ 2; have ht3 : w8.cell? ⟨tb, 3, none⟩ = some (.string ⟨x.toArray⟩) := (blk_cell E8.out.tb_ 3).trans rfl; have htf3 := blk_frozen E8.out.tb_ 3; have hr0 : w8.cell? ⟨rb, 0, none⟩ = some (.int .i64 0) := (blk_cell E8.out.rb_ 0).trans rfl; have hrf0 := blk_frozen E8.out.rb_ 0; have hr1 : w8.cell? ⟨rb, 1, none⟩ = some (.int .i64 0) := (blk_cell E8.out.rb_ 1).trans rfl; have hrf1 := blk_frozen E8.out.rb_ 1; have hr2 : w8.cell? ⟨rb, 2, none⟩ = some (.int .i64 0) := (blk_cell E8.out.rb_ 2).trans rfl; have hrf2 := blk_frozen E8.out.rb_ 2; have hr3 : w8.cell? ⟨rb, 3, none⟩ = some (.string ⟨#[]⟩) := (blk_cell E8.out.rb_ 3).trans rfl; have hrf3 := blk_frozen E8.out.rb_ 3; have hsc : w8.cell? ⟨sb, 0, none⟩ = some (.string s) := HSC.out w8 E8.out.bl; have hmc : w8.cell? ⟨mb, 0, none⟩ = some (.map (some m)) := HMC.out w8 E8.out.bl
                go_wp2_with fail
                exact bodyPost_ret (results_cttt (p := 4) (u := 5) (v := 6) (x := 7) rfl _ _ rb 32 (tkC (6) (0) (i) (⟨x.toArray⟩)) (0, 0) _ rfl (tk_put E8.out.rb_ (6) (0) (i) (⟨x.toArray⟩)) Tryd.underlying32 rfl (by kernel_rfl)) rfl (one_inr (e := (i : Int) + z) HO5.out rfl (by omega) (tk_below E8.out.bl E8.out.rw_ (6) (0) (i) (⟨x.toArray⟩)))
              | false =>
                go_wp2_with (first | (go_at_call 22; refine HPX.out.mono ?_; rintro e_ w7 ⟨rfl, rfl⟩))
                go_roundw
                case rel =>
                  refine ⟨k + 1, by omega, by go_num, E6, HG, Lib.hid (fun y hy => ?_)⟩
                  rw [List.take_succ_eq_append_getElem hkl] at hy
                  rcases List.mem_append.1 hy with h | h
                  · exact HF.out y h
                  · rw [List.mem_singleton.1 h, HX.out, HB.out]
                case measure => simp [intOf]; omega
            · obtain rfl : k = 14 := by omega
              have HO5 : Hid (oneL l i = .inl (6, (i : Int))) := Lib.hid (by
                have h := HO4.out
                have hf : signsL.find? pf = none := by
                  rw [List.find?_eq_none]
                  intro x hx
                  have := HF.out x hx
                  rw [this]; simp
                rw [hf] at h
                exact h)
              clear HF
              have ht0 : wr.cell? ⟨tb, 0, none⟩ = some (.int .i64 0) := (blk_cell E6.out.tb_ 0).trans rfl; have htf0 := blk_frozen E6.out.tb_ 0; have ht1 : wr.cell? ⟨tb, 1, none⟩ = some (.int .i64 0) := (blk_cell E6.out.tb_ 1).trans rfl; have htf1 := blk_frozen E6.out.tb_ 1; have ht2 : wr.cell? ⟨tb, 2, none⟩ = some (.int .i64 i) := (blk_cell E6.out.tb_ 2).trans rfl; have htf2 := blk_frozen E6.out.tb_ 2; have ht3 : wr.cell? ⟨tb, 3, none⟩ = some (.string ⟨#[]⟩) := (blk_cell E6.out.tb_ 3).trans rfl; have htf3 := blk_frozen E6.out.tb_ 3; have hr0 : wr.cell? ⟨rb, 0, none⟩ = some (.int .i64 0) := (blk_cell E6.out.rb_ 0).trans rfl; have hrf0 := blk_frozen E6.out.rb_ 0; have hr1 : wr.cell? ⟨rb, 1, none⟩ = some (.int .i64 0) := (blk_cell E6.out.rb_ 1).trans rfl; have hrf1 := blk_frozen E6.out.rb_ 1; have hr2 : wr.cell? ⟨rb, 2, none⟩ = some (.int .i64 0) := (blk_cell E6.out.rb_ 2).trans rfl; have hrf2 := blk_frozen E6.out.rb_ 2; have hr3 : wr.cell? ⟨rb, 3, none⟩ = some (.string ⟨#[]⟩) := (blk_cell E6.out.rb_ 3).trans rfl; have hrf3 := blk_frozen E6.out.rb_ 3; have hsc : wr.cell? ⟨sb, 0, none⟩ = some (.string s) := HSC.out wr E6.out.bl; have hmc : wr.cell? ⟨mb, 0, none⟩ = some (.map (some m)) := HMC.out wr E6.out.bl
              go_wp2_with fail
              exact bodyPost_ret (results_cttt (p := 4) (u := 5) (v := 6) (x := 7) rfl _ _ rb 32 (tkC (0) (0) (i) (⟨#[]⟩)) (0, 0) _ rfl (tk_put E6.out.rb_ (0) (0) (i) (⟨#[]⟩)) Tryd.underlying32 rfl (by kernel_rfl)) rfl (one_inl HO5.out (tk_below E6.out.bl E6.out.rw_ (0) (0) (i) (⟨#[]⟩)))
end Go.Proofs.YtniapbinamnmpaaDoor.L
