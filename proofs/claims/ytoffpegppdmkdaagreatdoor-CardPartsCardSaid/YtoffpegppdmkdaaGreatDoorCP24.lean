/- Contracts and plain lemmas of the functions that the law reaches, part 24. -/
import Derived.Maps.OwnOps
import Derived.Maps.OwnSet
import Derived.Maps.Views
import Derived.Carry
import Derived.Test.YtoffpegppdmkdaaGreatDoorCP11
import Derived.Test.YtoffpegppdmkdaaGreatDoorCP20
import Derived.Test.YtoffpegppdmkdaaGreatDoorCP23
namespace Go.Proofs.YtoffpegppdmkdaaGreatDoor.E
open Go.Maps Go.WideMaps Go.RowKit Go.Proofs.YtoffpegppdmkdaaGreatDoorW.PrintWords Go.Proofs.YtoffpegppdmkdaaGreatDoorW.PrintLast Go.Proofs.YtoffpegppdmkdaaGreatDoorW.PrintMore
set_option linter.unusedVariables false
theorem wpList_insert_own {H : Type} {P : Program} (w : World) {ops : Array Oper} {rest : List Oper} {o : Oper} {a : Act} {Q : Exit → Act → World → Prop}
    (hg : o.guard = none) (m x v : Operand) (t : TypeId) (hop : o.op = Op.insert t m x v)
    (k e : TypeId) (K : Keyed P k) (ht : P.underlying t = some (.map k e)) (R : Value → Option (DataW H × List MemPlace)) (b n : Nat) (D : DataW H)
    (hm : a.eval m = .map (some b)) (hown : w.ownsMap P k R b n D) (hn : n < maxLen) (key val : Value) (kl : Lit) (hx : a.eval x = key) (hv : a.eval v = val) (hkey : keyOf P k key = some kl)
    (d : DataW H) (ps : List MemPlace) (hval : R val = some (d, ps))
    (hK : ∀ w', w'.ownsMap P k R b (n + 1) (D.put kl d) → w.grownBy w' (some b) → wpList P ops Q rest (a.put o.dst undef) w') :
    wpList P ops Q (o :: rest) a w := by
  refine wpList_plain hg fun K' hK' => ?_
  obtain ⟨w', hrun, r1, r2⟩ := hown.update K ht hn hkey hval
  unfold Oper.wp
  simp [execOp, hop, hm, hx, hv, hrun, Result.andThen]
  exact hK' _ _ (hK w' r1 r2)
abbrev MapI (w : World) (b n : Nat) (D : DataW Unit) : Prop := w.ownsMap Tryz.prog 3 (plainElem Tryz.prog 3) b n D
def turnV (op : Int) : Int := if op = 13 then 11 else if op = 14 then 12 else if op = 4 then 4 else if op = 6 then 6 else if op = 9 then 9 else if op = 10 then 10 else if op = 15 then 15 else if op = 16 then 16 else 0
def TurnsAt (m : Nat) (w : World) : Prop := ∃ n D, MapI w m n D ∧ ∀ (op : Int) (zd : DataW Unit), D.atKey (.int .i64 op) zd = if turnV op = 0 then zd else .lit (.int .i64 (turnV op))
theorem TurnsAt.later {m : Nat} {w w' : World} (h : TurnsAt m w) (hb : Below w.heap.size w w') : TurnsAt m w' := by
  obtain ⟨n, D, h1, h2⟩ := h
  refine ⟨n, D, ?_, h2⟩
  obtain ⟨es, clock, hm, h3⟩ := h1
  exact ⟨es, clock, (hb.block m (blk_lt hm)).trans hm, h3⟩
theorem TurnsAt.step {m : Nat} {w w' : World} (h : TurnsAt m w) (hb : w'.heap[m]? = w.heap[m]?) : TurnsAt m w' := by
  obtain ⟨n, D, h1, h2⟩ := h
  refine ⟨n, D, ?_, h2⟩
  obtain ⟨es, clock, hm, h3⟩ := h1
  exact ⟨es, clock, hb.trans hm, h3⟩
set_option maxRecDepth 1000000 in
theorem turns_look {m : Nat} {w : World} (h : TurnsAt m w) (op : Int) (h0 : -9223372036854775808 ≤ op) (h1 : op ≤ 9223372036854775807) :
    (Instr.lookup 99 (.map (some m)) (.int .i64 op) true).run Tryz.prog w = .ok (.tuple #[.int .i64 (turnV op), .bool (turnV op != 0)]) w := by
  obtain ⟨n, D, h2, h3⟩ := h
  obtain ⟨es, clock, hb, F, _, rfl⟩ := h2
  have hwf : (Lit.int .i64 op).wf = true := by unfold Lit.wf; simp; exact ⟨h0, h1⟩
  rcases fit_look true (int_keyed Tryz.underlying3) Tryz.underlying99 (z := .int .i64 0) (by kernel_rfl) hb F (keyOf_int_mk Tryz.underlying3 hwf) with ⟨hrun, _, hat⟩ | ⟨e0, y, _, _, hrun, hR, hat, _⟩
  · have h4 : turnV op = 0 := by
      rcases Decidable.em (turnV op = 0) with h | h
      · exact h
      · have h5 := (h3 op (.lit (.int .i64 77))).symm.trans (hat _)
        have h6 := (h3 op (.lit (.int .i64 78))).symm.trans (hat _)
        rw [if_neg h] at h5 h6
        have h7 := h5.symm.trans h6
        injection h7 with h7; injection h7 with _ h7; exact absurd h7 (by decide)
    rw [hrun, h4]; rfl
  · have h4 : ¬ turnV op = 0 := fun h => by
      have h5 := (h3 op (.lit (.int .i64 77))).symm.trans (hat _)
      have h6 := (h3 op (.lit (.int .i64 78))).symm.trans (hat _)
      rw [if_pos h] at h5 h6
      have h7 := h5.trans h6.symm
      injection h7 with h7; injection h7 with _ h7; exact absurd h7 (by decide)
    have h5 := (h3 op (.lit (.int .i64 0))).symm.trans (hat _)
    rw [if_neg h4] at h5
    obtain ⟨c, hc, hy, _⟩ := plainElem_int_inv Tryz.underlying3 hR
    rw [hy] at h5
    have h6 : turnV op = c := by injection h5 with h5; injection h5 with _ h5
    rw [hrun, hc, h6, show (c != 0) = true from bne_iff_ne.mpr (h6 ▸ h4)]; rfl
theorem gate_ins {P : Program} {ops : Array Oper} {rest : List Oper} {o : Oper} {a : Act} {Q : Exit → Act → World → Prop} {W : World} {t : TypeId} {m x v : Operand} (_ho : o.op = .insert t m x v) (h : wpList P ops Q (o :: rest) a W) : wpList P ops Q (o :: rest) a W := h
theorem put_at {D : DataW Unit} (hD : IsMap D) (k v op : Int) (zd : DataW Unit) : (D.put (.int .i64 k) (.lit (.int .i64 v))).atKey (.int .i64 op) zd = if op = k then .lit (.int .i64 v) else D.atKey (.int .i64 op) zd := by
  by_cases h : op = k
  · subst h
    rw [if_pos rfl, atKey_put_same hD (show WideAt.IsKeyLit (.int .i64 op) from trivial)]
  · rw [if_neg h, atKey_put_other (fun e => h (by injection e))]
theorem isMap_put {D : DataW Unit} (hD : IsMap D) (k : Lit) (d : DataW Unit) : IsMap (D.put k d) := by
  obtain ⟨es, rfl⟩ := hD
  exact ⟨_, rfl⟩
set_option maxHeartbeats 2000000 in
set_option maxRecDepth 100000 in
theorem turned_ok (w : World) : Calls Tryz.prog 52 #[] w fun e w' => ∃ m, e = .returned (.map (some m)) ∧ TurnsAt m w' ∧ Below w.heap.size w w' := by
  have hmm := @run_makeMap Tryz.prog
  go_enter Tryz.func52, Tryz.ntmps52
  have HM := Lib.hid (World.ownsMap_made (H := Unit) (P := Tryz.prog) w 3 (plainElem Tryz.prog 3))
  have HB := Lib.hid (blA (Below.refl w.heap.size w) (.map #[] 0))
  go_wp2_with (first | ((with_reducible refine gate_ins rfl ?_); refine wpList_insert_own _ rfl _ _ _ 99 rfl 3 3 (int_keyed Tryz.underlying3) Tryz.underlying99 _ w.heap.size _ _ rfl HM.out (by decide) _ _ (.int .i64 _) rfl rfl (keyOf_int_mk Tryz.underlying3 (by decide)) (.lit (.int .i64 _)) [] (plainElem_int Tryz.underlying3 (by decide)) ?_; intro w1 ho hg; have HB2 := Lib.hid (HB.out.grown hg HB.out.size (fun k hk => by cases hk; exact Nat.le_refl _)); clear HM HB; have HM := Lib.hid ho; have HB := HB2; clear HB2 ho hg))
  go_ret
  refine ⟨w.heap.size, rfl, ⟨_, _, HM.out, fun op zd => ?_⟩, HB.out⟩
  clear HM HB
  have h0 : IsMap (DataW.map (H := Unit) []) := isMap_empty
  have h1 := isMap_put h0 (.int .i64 13) (.lit (.int .i64 11))
  have h2 := isMap_put h1 (.int .i64 14) (.lit (.int .i64 12))
  have h3 := isMap_put h2 (.int .i64 4) (.lit (.int .i64 4))
  have h4 := isMap_put h3 (.int .i64 6) (.lit (.int .i64 6))
  have h5 := isMap_put h4 (.int .i64 9) (.lit (.int .i64 9))
  have h6 := isMap_put h5 (.int .i64 10) (.lit (.int .i64 10))
  have h7 := isMap_put h6 (.int .i64 15) (.lit (.int .i64 15))
  rw [put_at h7, put_at h6, put_at h5, put_at h4, put_at h3, put_at h2, put_at h1, put_at h0]
  unfold turnV
  have he : (DataW.map (H := Unit) []).atKey (.int .i64 op) zd = zd := by simp [DataW.atKey]
  rw [he]
  by_cases a1 : op = 13
  · subst a1; simp
  by_cases a2 : op = 14
  · subst a2; simp
  by_cases a3 : op = 4
  · subst a3; simp
  by_cases a4 : op = 6
  · subst a4; simp
  by_cases a5 : op = 9
  · subst a5; simp
  by_cases a6 : op = 10
  · subst a6; simp
  by_cases a7 : op = 15
  · subst a7; simp
  by_cases a8 : op = 16
  · subst a8; simp
  simp [a1, a2, a3, a4, a5, a6, a7, a8]
end Go.Proofs.YtoffpegppdmkdaaGreatDoor.E
namespace Go.Proofs.YtoffpegppdmkdaaGreatDoor.E
open Go.RowKit Go.Proofs.YtoffpegppdmkdaaGreatDoorW.PrintWords Go.Proofs.YtoffpegppdmkdaaGreatDoorW.PrintLast Go.Proofs.YtoffpegppdmkdaaGreatDoorW.PrintMore
set_option linter.unusedVariables false
set_option linter.unusedSimpArgs false
theorem ex_put {w : World} {g : Nat} {d : Ex} {D : Option Addr} {k : Nat} (h : w.heap[g]? = some (.cells (exC d D k) 26 (0, 0))) (e : Ex) (A : Option Addr) (c : Nat) : (((((((((w.setCell ⟨g, 0, none⟩ (.int .i64 e.f0)).setCell ⟨g, 1, none⟩ (.int .i64 e.f1.f0)).setCell ⟨g, 2, none⟩ (.int .i64 e.f1.f1)).setCell ⟨g, 3, none⟩ (.string e.f1.f2)).setCell ⟨g, 4, none⟩ (.int .i64 e.f2)).setCell ⟨g, 5, none⟩ (.int .i64 e.f3)).setCell ⟨g, 6, none⟩ (.int .i64 e.f4)).setCell ⟨g, 7, none⟩ (.string e.f5)).setCell ⟨g, 8, none⟩ (.slice A e.f6.length c)).heap[g]? = some (.cells (exC e A c) 26 (0, 0)) := by
  have h1 := blk_set h 0 (.int .i64 e.f0)
  have h2 := blk_set h1 1 (.int .i64 e.f1.f0)
  have h3 := blk_set h2 2 (.int .i64 e.f1.f1)
  have h4 := blk_set h3 3 (.string e.f1.f2)
  have h5 := blk_set h4 4 (.int .i64 e.f2)
  have h6 := blk_set h5 5 (.int .i64 e.f3)
  have h7 := blk_set h6 6 (.int .i64 e.f4)
  have h8 := blk_set h7 7 (.string e.f5)
  have h9 := blk_set h8 8 (.slice A e.f6.length c)
  refine h9.trans (congrArg (fun a => some (Obj.cells a 26 (0, 0))) ?_)
  simp [exC]
theorem ex_put0 {w : World} {g : Nat} (h : w.heap[g]? = some (.cells zerosE 26 (0, 0))) (e : Ex) (A : Option Addr) (c : Nat) : (((((((((w.setCell ⟨g, 0, none⟩ (.int .i64 e.f0)).setCell ⟨g, 1, none⟩ (.int .i64 e.f1.f0)).setCell ⟨g, 2, none⟩ (.int .i64 e.f1.f1)).setCell ⟨g, 3, none⟩ (.string e.f1.f2)).setCell ⟨g, 4, none⟩ (.int .i64 e.f2)).setCell ⟨g, 5, none⟩ (.int .i64 e.f3)).setCell ⟨g, 6, none⟩ (.int .i64 e.f4)).setCell ⟨g, 7, none⟩ (.string e.f5)).setCell ⟨g, 8, none⟩ (.slice A e.f6.length c)).heap[g]? = some (.cells (exC e A c) 26 (0, 0)) :=
  ex_put (d := ⟨0, ⟨0, 0, ⟨#[]⟩⟩, 0, 0, 0, ⟨#[]⟩, []⟩) (D := none) (k := 0) h e A c
theorem ex_below {B : Nat} {w0 w : World} {g : Nat} (h : Below B w0 w) (hg : B ≤ g) (e : Ex) (A : Option Addr) (c : Nat) : Below B w0 (((((((((w.setCell ⟨g, 0, none⟩ (.int .i64 e.f0)).setCell ⟨g, 1, none⟩ (.int .i64 e.f1.f0)).setCell ⟨g, 2, none⟩ (.int .i64 e.f1.f1)).setCell ⟨g, 3, none⟩ (.string e.f1.f2)).setCell ⟨g, 4, none⟩ (.int .i64 e.f2)).setCell ⟨g, 5, none⟩ (.int .i64 e.f3)).setCell ⟨g, 6, none⟩ (.int .i64 e.f4)).setCell ⟨g, 7, none⟩ (.string e.f5)).setCell ⟨g, 8, none⟩ (.slice A e.f6.length c)) :=
  ((((((((h.setCell (p := ⟨g, 0, none⟩) hg _).setCell (p := ⟨g, 1, none⟩) hg _).setCell (p := ⟨g, 2, none⟩) hg _).setCell (p := ⟨g, 3, none⟩) hg _).setCell (p := ⟨g, 4, none⟩) hg _).setCell (p := ⟨g, 5, none⟩) hg _).setCell (p := ⟨g, 6, none⟩) hg _).setCell (p := ⟨g, 7, none⟩) hg _).setCell (p := ⟨g, 8, none⟩) hg _
theorem ex_heap {w : World} {g k : Nat} (hn : k ≠ g) (e : Ex) (A : Option Addr) (c : Nat) : (((((((((w.setCell ⟨g, 0, none⟩ (.int .i64 e.f0)).setCell ⟨g, 1, none⟩ (.int .i64 e.f1.f0)).setCell ⟨g, 2, none⟩ (.int .i64 e.f1.f1)).setCell ⟨g, 3, none⟩ (.string e.f1.f2)).setCell ⟨g, 4, none⟩ (.int .i64 e.f2)).setCell ⟨g, 5, none⟩ (.int .i64 e.f3)).setCell ⟨g, 6, none⟩ (.int .i64 e.f4)).setCell ⟨g, 7, none⟩ (.string e.f5)).setCell ⟨g, 8, none⟩ (.slice A e.f6.length c)).heap[k]? = w.heap[k]? :=
  (Below.heap_setCell _ ⟨g, 8, none⟩ _ k hn).trans ((Below.heap_setCell _ ⟨g, 7, none⟩ _ k hn).trans ((Below.heap_setCell _ ⟨g, 6, none⟩ _ k hn).trans ((Below.heap_setCell _ ⟨g, 5, none⟩ _ k hn).trans ((Below.heap_setCell _ ⟨g, 4, none⟩ _ k hn).trans ((Below.heap_setCell _ ⟨g, 3, none⟩ _ k hn).trans ((Below.heap_setCell _ ⟨g, 2, none⟩ _ k hn).trans ((Below.heap_setCell _ ⟨g, 1, none⟩ _ k hn).trans (Below.heap_setCell _ ⟨g, 0, none⟩ _ k hn))))))))
def NewE (y : Ex) (W : World) (e : Ending) (w' : World) : Prop := ∃ D k, e = .returned (.agg (exC y D k)) ∧ y.f6.length ≤ k ∧ Kd.F KX w' (fun b => W.heap.size ≤ b) D y.f6.length y.f6 ∧ Below W.heap.size W w'
def MakesAt (fid : Nat) (caps : Array Value) (w : World) (F : Ex → Ex) (x : Ex) : Prop :=
  ∀ (A : Option Addr) (c : Nat) (W : World), Below w.heap.size w W → x.f6.length ≤ c → Kd.C KX W A x.f6.length x.f6 → Calls Tryz.prog fid (#[.agg (exC x A c)] ++ caps) W (NewE (F x) W)
set_option maxHeartbeats 4000000 in
set_option maxRecDepth 100000 in
theorem each_ok (fid : Nat) (caps : Array Value) (F : Ex → Ex) (xs : List Ex) (A : Option Addr) (c : Nat) (w : World) (hC : Kd.C KX w A xs.length xs) (hl : xs.length * 104 ≤ 140737488351232)
    (hcf : ∀ (args : Array Value) (W : World), (callFunc fid args).run Tryz.prog W = .ok (.enter fid args) W) (hF : ∀ x ∈ xs, MakesAt fid caps w F x) :
    Calls Tryz.prog 67 #[.slice A xs.length c, .func (.func fid) #[] caps] w fun e w' => ∃ v, e = .returned v ∧ Kd.N KX TX w' w.heap.size (fun k => w.heap.size ≤ k) v (xs.map F) ∧ Below w.heap.size w w' := by
  obtain ⟨n, hn⟩ : ∃ n, xs.length = n := ⟨_, rfl⟩
  rw [hn] at hC hl ⊢
  have HN := Lib.hid hn; clear hn
  have HC := Lib.hid hC; clear hC
  have HF := Lib.hid hF; clear hF
  go_enter Tryz.func67, Tryz.ntmps67
  go_upto_region 3 with fail
  go_loopw [5, 10] (fun v5 v10 wr => ∃ (k : Nat) (v : Value), v = v5 ∧ k ≤ n ∧ v10 = .int .i64 k ∧ Hid (Kd.N KX TX wr w.heap.size (fun k => w.heap.size ≤ k) v ((xs.take k).map F)) ∧ Hid (Below w.heap.size w wr)) (fun _ i _ => n - (intOf i).toNat)
  case atStart => exact ⟨0, _, rfl, Nat.zero_le _, rfl, Lib.hid (Kd.N_nil _ _ _ _ _), Lib.hid (Below.refl _ _)⟩
  case round =>
    obtain ⟨k, v, rfl, hk, rfl, HK, HB⟩ := hrel
    by_cases hlt : k < n
    · have hlt' : (k : Int) < n := by omega
      have hw1 : IntKind.i64.wrap ((k : Int) + 1) = (k : Int) + 1 := IntWalk.i64_in _ (by omega)
      obtain ⟨ad, A8, c8, x, rfl, HE, h0, h1, h2, h3, h4, h5, h6, h7, h8, hc8, hC8⟩ := at_ex HC.out HN.out k hlt
      replace HE := Lib.hid HE
      have HC8 := Lib.hid hC8; clear hC8
      replace h0 := pw_cell_below HB.out h0; replace h1 := pw_cell_below HB.out h1; replace h2 := pw_cell_below HB.out h2; replace h3 := pw_cell_below HB.out h3; replace h4 := pw_cell_below HB.out h4; replace h5 := pw_cell_below HB.out h5; replace h6 := pw_cell_below HB.out h6; replace h7 := pw_cell_below HB.out h7; replace h8 := pw_cell_below HB.out h8
      go_upto_region 5 with (first | ((with_reducible refine gate_dst (N := 7) rfl ?_); refine box_event rfl (N := 7) rfl (cs := zerosE) (t := 26) (by first | rfl | (go_simp; done) | (go_simp; rfl)) ?_; intro xb hgg w3 hbxb hBxb;  have hxr : wr.heap.size ≤ xb := (by omega); clear hgg; replace h0 := pw_cell_below hBxb h0; replace h1 := pw_cell_below hBxb h1; replace h2 := pw_cell_below hBxb h2; replace h3 := pw_cell_below hBxb h3; replace h4 := pw_cell_below hBxb h4; replace h5 := pw_cell_below hBxb h5; replace h6 := pw_cell_below hBxb h6; replace h7 := pw_cell_below hBxb h7; replace h8 := pw_cell_below hBxb h8; have hd0 : w3.cell? ⟨xb, 0, none⟩ = some (.int .i64 0) := ((bkC hbxb 0).trans rfl); have hf0 := bkF hbxb 0; have hd1 : w3.cell? ⟨xb, 1, none⟩ = some (.int .i64 0) := ((bkC hbxb 1).trans rfl); have hf1 := bkF hbxb 1; have hd2 : w3.cell? ⟨xb, 2, none⟩ = some (.int .i64 0) := ((bkC hbxb 2).trans rfl); have hf2 := bkF hbxb 2; have hd3 : w3.cell? ⟨xb, 3, none⟩ = some (.string ⟨#[]⟩) := ((bkC hbxb 3).trans rfl); have hf3 := bkF hbxb 3; have hd4 : w3.cell? ⟨xb, 4, none⟩ = some (.int .i64 0) := ((bkC hbxb 4).trans rfl); have hf4 := bkF hbxb 4; have hd5 : w3.cell? ⟨xb, 5, none⟩ = some (.int .i64 0) := ((bkC hbxb 5).trans rfl); have hf5 := bkF hbxb 5; have hd6 : w3.cell? ⟨xb, 6, none⟩ = some (.int .i64 0) := ((bkC hbxb 6).trans rfl); have hf6 := bkF hbxb 6; have hd7 : w3.cell? ⟨xb, 7, none⟩ = some (.string ⟨#[]⟩) := ((bkC hbxb 7).trans rfl); have hf7 := bkF hbxb 7; have hd8 : w3.cell? ⟨xb, 8, none⟩ = some (.slice none 0 0) := ((bkC hbxb 8).trans rfl); have hf8 := bkF hbxb 8))
      clear h0 h1 h2 h3 h4 h5 h6 h7 h8 hd0 hd1 hd2 hd3 hd4 hd5 hd6 hd7 hd8 hf0 hf1 hf2 hf3 hf4 hf5 hf6 hf7 hf8
      have hx4 := ex_put0 hbxb x A8 c8
      have hB4 := ex_below hBxb hxr x A8 c8
      clear hbxb hBxb hxr
      generalize (((((((((w3.setCell ⟨xb, 0, none⟩ (.int .i64 x.f0)).setCell ⟨xb, 1, none⟩ (.int .i64 x.f1.f0)).setCell ⟨xb, 2, none⟩ (.int .i64 x.f1.f1)).setCell ⟨xb, 3, none⟩ (.string x.f1.f2)).setCell ⟨xb, 4, none⟩ (.int .i64 x.f2)).setCell ⟨xb, 5, none⟩ (.int .i64 x.f3)).setCell ⟨xb, 6, none⟩ (.int .i64 x.f4)).setCell ⟨xb, 7, none⟩ (.string x.f5)).setCell ⟨xb, 8, none⟩ (.slice A8 x.f6.length c8)) = w4 at hx4 hB4 ⊢
      obtain ⟨hz0, hz1, hz2, hz3, hz4, hz5, hz6, hz7, hz8⟩ := bkC9 hx4
      have HB4 := Lib.hid hB4
      have HBW : Hid (Below w.heap.size w w4) := Lib.hid (HB.out.trans (hB4.mono HB.out.size))
      have hmem : x ∈ xs := List.mem_of_getElem? HE.out
      have HCL : Hid (Calls Tryz.prog fid (#[.agg (exC x A8 c8)] ++ caps) w4 (NewE (F x) w4)) := Lib.hid (HF.out x hmem A8 c8 w4 HBW.out hc8 (Kd.C_below HC8.out HBW.out))
      clear hx4 hB4 hmem
      have hfe : ∀ (args : Array Value), (callFunc fid args).run Tryz.prog w4 = .ok (.enter fid args) w4 := fun args => hcf args w4
      have HHK : Hid (∀ b, w4.heap.size ≤ b → w.heap.size ≤ b ∧ some b ≠ v.ownBlock) := Lib.hid (fun b hb => ⟨Nat.le_trans HBW.out.size hb, fun h => by have h1 := Kd.N_lt HK.out b h.symm; have := HB4.out.size; omega⟩)
      have HNK : Hid (Kd.N KX TX w4 w.heap.size (fun k => w.heap.size ≤ k) v ((xs.take k).map F)) := Lib.hid (Kd.N_below HK.out HB4.out)
      have HTL : Hid (((xs.take k).map F).length = k) := Lib.hid (by rw [List.length_map, List.length_take, HN.out]; omega)
      unfold exC at HCL
      go_wp2_with fail
      refine HCL.out.mono ?_
      rintro r w5 ⟨D, kk, rfl, hkk, hFF, hB5⟩
      have HFF := Lib.hid hFF; have HB5 := Lib.hid hB5
      clear hFF hB5 hz0 hz1 hz2 hz3 hz4 hz5 hz6 hz7 hz8 HCL
      unfold exC
      have HFK : Hid (Kd.FK KX w5 (fun b => w4.heap.size ≤ b) (F x) [.int .i64 (F x).f0, .int .i64 (F x).f1.f0, .int .i64 (F x).f1.f1, .string (F x).f1.f2, .int .i64 (F x).f2, .int .i64 (F x).f3, .int .i64 (F x).f4, .string (F x).f5, .slice D (F x).f6.length kk]) := Lib.hid (k26_mkF w5 _ (F x) hkk HFF.out)
      have HNK5 : Hid (Kd.N KX TX w5 w.heap.size (fun k => w.heap.size ≤ k) v ((xs.take k).map F)) := Lib.hid (Kd.N_below HNK.out HB5.out)
      have HBW5 : Hid (Below w.heap.size w w5) := Lib.hid (HBW.out.trans (HB5.out.mono HBW.out.size))
      have hsz5 : w.heap.size ≤ w5.heap.size := HBW5.out.size
      go_wp2_with ((with_reducible refine gate_builtin (b := .append) (xs := #[.tmp 14, .tmp 18]) rfl ?_); at_builtin; refine Kd.N_append KX (w0 := w) w.heap.size rfl (.tmp 14) (.tmp 18) 24 26 (.agg #[(.int .i64 0), (.int .i64 0), (.int .i64 0), (.string ⟨#[]⟩), (.int .i64 0), (.int .i64 0), (.int .i64 0), (.string ⟨#[]⟩), (.slice none 0 0)]) 104 rfl Tryz.underlying24 info26 rfl (by decide) (by omega) v ((xs.take k).map F) (F x) [.int .i64 (F x).f0, .int .i64 (F x).f1.f0, .int .i64 (F x).f1.f1, .string (F x).f1.f2, .int .i64 (F x).f2, .int .i64 (F x).f3, .int .i64 (F x).f4, .string (F x).f5, .slice D (F x).f6.length kk] (fun k => w.heap.size ≤ k) (fun b => w4.heap.size ≤ b) rfl rfl ?aP ?aK ?aF ?aO ?aB ?aS ?aL ?_; (case aP => exact HFK.out); (case aK => exact HHK.out); (case aF => exact (fun b hb => Nat.le_trans hsz5 hb)); (case aO => exact HNK5.out); (case aB => exact HBW5.out); (case aS => exact hsz5); (case aL => rw [HTL.out]; omega); intro v1 w6 ho hb hg hat; have HO6 := Lib.hid ho; have HB6 := Lib.hid hb; clear ho hb hg hat)
      go_roundw
      case rel =>
        refine ⟨k + 1, _, rfl, by omega, by go_num, ?_, HB6⟩
        have h := HO6.out
        have h2 : xs.take (k + 1) = xs.take k ++ [x] := by rw [List.take_add_one, HE.out]; rfl
        rw [h2, List.map_append]
        exact Lib.hid h
      case measure => simp [intOf]; omega
    · have hlt' : ¬ (k : Int) < n := by omega
      obtain rfl : n = k := by omega
      go_wp2_with fail
      go_ret
      refine ⟨_, rfl, ?_, HB.out⟩
      have h := HK.out
      rw [List.take_of_length_le (by rw [HN.out]; exact Nat.le_refl _)] at h
      exact h
def lessT (a b : Ex) : Bool := decide (tl a < tl b)
def turnF (op : Int) (l : List Ex) : Int × List Ex :=
  if turnV op = 0 then (op, l) else if turnV op = op then (if lessT (l.getD 1 z26) (l.getD 0 z26) = true then (op, l.reverse) else (op, l)) else (turnV op, l.reverse)
mutual
def normF : Ex → Ex
  | ⟨op, v, r, c, n, s, l⟩ => ⟨(turnF op (normL l)).1, v, r, c, n, s, (turnF op (normL l)).2⟩
def normL : List Ex → List Ex
  | [] => []
  | x :: l => normF x :: normL l
end
theorem normL_map : ∀ l : List Ex, normL l = l.map normF
  | [] => by rw [normL]; rfl
  | x :: l => by rw [normL, normL_map l]; rfl
theorem normF_eq (e : Ex) : normF e = ⟨(turnF e.f0 (e.f6.map normF)).1, e.f1, e.f2, e.f3, e.f4, e.f5, (turnF e.f0 (e.f6.map normF)).2⟩ := by
  obtain ⟨op, v, r, c, n, s, l⟩ := e
  rw [normF, normL_map]
theorem NewE.base {y : Ex} {W W1 w' : World} {e : Ending} (h : NewE y W1 e w') (hB : Below W.heap.size W W1) : NewE y W e w' := by
  obtain ⟨D, k, he, hk, hF, hb⟩ := h
  exact ⟨D, k, he, hk, Kd.F_mono hF (fun b hb => Nat.le_trans hB.size hb), hB.trans (hb.mono hB.size)⟩
def NormalOk (x : Ex) : Prop := ∀ (A : Option Addr) (c : Nat) (W : World) (m : Nat), TabW W → TurnsAt m W → Rt x → rngF x = true → x.f6.length ≤ c → Kd.C KX W A x.f6.length x.f6 →
  Calls Tryz.prog 51 #[.agg (exC x A c), .map (some m)] W (NewE (normF x) W)
theorem hcfN : ∀ (args : Array Value) (W : World), (callFunc 86 args).run Tryz.prog W = .ok (.enter 86 args) W := fun args W => by go_simp
set_option maxHeartbeats 4000000 in
set_option maxRecDepth 100000 in
theorem norm1_ok (x : Ex) (h : NormalOk x) (hRt : Rt x) (hRg : rngF x = true) (mb m : Nat) (w : World) (hm : w.heap[mb]? = some (.cells #[.map (some m)] 99 (0, 0))) (hT : TabW w) (hTu : TurnsAt m w) :
    MakesAt 86 #[.pointer (some ⟨mb, 0, none⟩)] w normF x := by
  intro A c W hW hc hC
  have HM := Lib.hid ((hW.block mb (blk_lt hm)).trans hm)
  have HCC := Lib.hid hC
  have HCL : Hid (∀ W2, Below W.heap.size W W2 → Calls Tryz.prog 51 #[.agg (exC x A c), .map (some m)] W2 (NewE (normF x) W2)) := Lib.hid (fun W2 h2 => h A c W2 m (tab_at hT (hW.trans (h2.mono hW.size))) (hTu.later (hW.trans (h2.mono hW.size))) hRt hRg hc (Kd.C_below hC h2))
  obtain ⟨y, hy⟩ : ∃ y, normF x = y := ⟨_, rfl⟩
  rw [hy] at HCL ⊢
  clear h hRt hRg hT hTu hC hm hW hy
  unfold exC at HCL ⊢
  go_enter Tryz.func86, Tryz.ntmps86
  go_upto_region 1 with (first | ((with_reducible refine gate_dst (N := 2) rfl ?_); refine box_event rfl (N := 2) rfl (cs := exC x A c) (t := 26) (by first | rfl | (go_simp; done) | (go_simp; rfl)) ?_; intro g hgg w1 hbg hBg;  have HG := Lib.hid hbg; have HB1 := Lib.hid hBg; clear hgg hbg hBg) | ((with_reducible refine gate_dst (N := 3) rfl ?_); refine box_event rfl (N := 3) rfl (cs := zerosE) (t := 26) (by first | rfl | (go_simp; done) | (go_simp; rfl)) ?_; intro rb hgg w2 hbrb hBrb;  have hrb : w1.heap.size ≤ rb := (by omega); have HR := Lib.hid hbrb; have HB2 := Lib.hid hBrb; clear hgg hbrb hBrb))
  have HB : Hid (Below W.heap.size W w2) := Lib.hid (HB1.out.trans (HB2.out.mono HB1.out.size))
  have hg2 := (HB2.out.block g (blk_lt HG.out)).trans HG.out
  have hm2 := (HB.out.block mb (blk_lt HM.out)).trans HM.out
  obtain ⟨hz0, hz1, hz2, hz3, hz4, hz5, hz6, hz7, hz8⟩ := bkC9 hg2
  have hmc : w2.cell? ⟨mb, 0, none⟩ = some (.map (some m)) := (bkC hm2 0).trans rfl
  have HCL2 := Lib.hid (HCL.out w2 HB.out)
  have hr0 := HR.out
  go_wp2_with (go_at_call 51; refine HCL2.out.mono ?_; rintro r w3 ⟨D, kk, rfl, hkk, hFF, hB3⟩; have hr3 := (hB3.block rb (blk_lt hr0)).trans hr0; have HFF := Lib.hid hFF; have HB3 := Lib.hid hB3; have HR3 := Lib.hid hr3; clear hFF hB3; obtain ⟨hy0, hy1, hy2, hy3, hy4, hy5, hy6, hy7, hy8⟩ := bkC9 hr3; have hf0 := bkF hr3 0; have hf1 := bkF hr3 1; have hf2 := bkF hr3 2; have hf3 := bkF hr3 3; have hf4 := bkF hr3 4; have hf5 := bkF hr3 5; have hf6 := bkF hr3 6; have hf7 := bkF hr3 7; have hf8 := bkF hr3 8; clear hr3; unfold exC)
  refine bodyPost_ret (results_cell_row rfl _ _ rb 26 (exC y D kk) (0, 0) _ rfl (ex_put0 HR3.out y D kk) Tryz.underlying26 rfl (info_ex _ _ _)) rfl ?_
  have hrw : rb < w2.heap.size := blk_lt hr0
  have hB13 : Below W.heap.size W w3 := HB.out.trans (HB3.out.mono HB.out.size)
  refine ⟨D, kk, rfl, hkk, ?_, ex_below hB13 (by have := HB1.out.size; omega) y D kk⟩
  refine Kd.F_mono (Kd.F_step HFF.out (fun b hb hlt => ?_)) (fun b hb => Nat.le_trans HB.out.size hb)
  exact ex_heap (show b ≠ rb by omega) y D kk
theorem ex_eta (e : Ex) {l : List Ex} (h : e.f6 = l) : (⟨e.f0, e.f1, e.f2, e.f3, e.f4, e.f5, l⟩ : Ex) = e := by subst h; cases e; rfl
theorem turnV_two {e : Ex} (h : Rt e) (ht : ¬ turnV e.f0 = 0) : e.f6.length = 2 := by
  have h1 := (own_true h.own).2
  unfold turnV at ht
  have h3 : wantsI e.f0 = 2 := by
    by_cases a1 : e.f0 = 13
    · rw [a1]; rfl
    by_cases a2 : e.f0 = 14
    · rw [a2]; rfl
    by_cases a3 : e.f0 = 4
    · rw [a3]; rfl
    by_cases a4 : e.f0 = 6
    · rw [a4]; rfl
    by_cases a5 : e.f0 = 9
    · rw [a5]; rfl
    by_cases a6 : e.f0 = 10
    · rw [a6]; rfl
    by_cases a7 : e.f0 = 15
    · rw [a7]; rfl
    by_cases a8 : e.f0 = 16
    · rw [a8]; rfl
    simp [a1, a2, a3, a4, a5, a6, a7, a8] at ht
  omega
theorem turnF_mem (op : Int) (l : List Ex) (x : Ex) (h : x ∈ (turnF op l).2) : x ∈ l := by
  unfold turnF at h
  split at h
  · exact h
  · split at h
    · split at h
      · exact List.mem_reverse.1 h
      · exact h
    · exact List.mem_reverse.1 h
theorem rngL_of {l : List Ex} (h : ∀ x ∈ l, rngF x = true) : rngL l = true := by
  induction l with
  | nil => simp [rngL]
  | cons x l ih => simp only [rngL, Bool.and_eq_true]; exact ⟨h x (.head _), ih (fun y hy => h y (.tail _ hy))⟩
theorem rng_norm : ∀ (N : Nat) (e : Ex), SizeOf.sizeOf e < N → rngF e = true → rngF (normF e) = true
  | 0, e, h, _ => by omega
  | N + 1, e, h, hr => by
    rw [rngF_eq] at hr
    rw [rngF_eq, normF_eq]
    simp only [Bool.and_eq_true] at hr ⊢
    refine ⟨hr.1, rngL_of (fun x hx => ?_)⟩
    obtain ⟨y, hy, rfl⟩ := List.mem_map.1 (turnF_mem _ _ _ hx)
    refine rng_norm N y ?_ (rngL_mem hr.2 hy)
    have h1 := List.sizeOf_lt_of_mem hy
    cases e; simp at h h1 ⊢; omega
theorem norm_rng {e : Ex} (h : rngF e = true) : rngF (normF e) = true := rng_norm _ e (Nat.lt_succ_self _) h
set_option maxHeartbeats 8000000 in
set_option maxRecDepth 100000 in
theorem normal_step (e : Ex) (ih : ∀ x ∈ e.f6, NormalOk x) : NormalOk e := by
  intro A c W m hT hTu hRt hRg hc hC
  have hl2 := hRt.len
  have hop := hRt.op
  have hrl : rngL e.f6 = true := by rw [rngF_eq] at hRg; simp only [Bool.and_eq_true] at hRg; exact hRg.2
  obtain ⟨l, hll⟩ : ∃ l, e.f6.map normF = l := ⟨_, rfl⟩
  have hlr : ∀ x ∈ l, rngF x = true := fun x hx => by
    rw [← hll] at hx
    obtain ⟨y, hy, rfl⟩ := List.mem_map.1 hx
    exact norm_rng (rngL_mem hrl hy)
  have hln : l.length = e.f6.length := by rw [← hll, List.length_map]
  have HY : Hid (normF e = ⟨(turnF e.f0 l).1, e.f1, e.f2, e.f3, e.f4, e.f5, (turnF e.f0 l).2⟩) := Lib.hid (by rw [normF_eq, hll])
  have HEA : Hid (∀ W2 mb, Below W.heap.size W W2 → W2.heap[mb]? = some (.cells #[.map (some m)] 99 (0, 0)) → Calls Tryz.prog 67 #[.slice A e.f6.length c, .func (.func 86) #[] #[.pointer (some ⟨mb, 0, none⟩)]] W2 fun e w' => ∃ v, e = .returned v ∧ Kd.N KX TX w' W2.heap.size (fun k => W2.heap.size ≤ k) v l ∧ Below W2.heap.size W2 w') := Lib.hid (fun W2 mb hB hm => by
    have h := each_ok 86 #[.pointer (some ⟨mb, 0, none⟩)] normF e.f6 A c W2 (Kd.C_below hC hB) (by omega) hcfN (fun x hx => norm1_ok x (ih x hx) (hRt.kid hx) (rngL_mem hrl hx) mb m W2 hm (tab_at hT hB) (hTu.later hB))
    rw [hll] at h; exact h)
  have HTW : Hid (∀ W2, Below W.heap.size W W2 → TabW W2) := Lib.hid (fun W2 h => tab_at hT h)
  have HLK : Hid (∀ W2, Below W.heap.size W W2 → (Instr.lookup 99 (.map (some m)) (.int .i64 e.f0) true).run Tryz.prog W2 = .ok (.tuple #[.int .i64 (turnV e.f0), .bool (turnV e.f0 != 0)]) W2) := Lib.hid (fun W2 h => turns_look (hTu.later h) e.f0 (by omega) (by omega))
  have HLR := Lib.hid hlr; have HLN := Lib.hid hln; have HRT := Lib.hid hRt
  clear ih hT hTu hC hrl hll hlr hln
  obtain ⟨y, hy⟩ : ∃ y, normF e = y := ⟨_, rfl⟩
  rw [hy] at HY ⊢
  clear hy
  unfold exC
  go_enter Tryz.func51, Tryz.ntmps51
  go_upto_region 1 with (first | ((with_reducible refine gate_dst (N := 2) rfl ?_); refine box_event rfl (N := 2) rfl (cs := exC e A c) (t := 26) (by first | rfl | (go_simp; done) | (go_simp; rfl)) ?_; intro g hgg w1 hbg hBg;  have hgw : W.heap.size ≤ g := (by omega); have HG := Lib.hid hbg; have HB1 := Lib.hid hBg; clear hgg hbg hBg) | ((with_reducible refine gate_dst (N := 3) rfl ?_); refine box_event rfl (N := 3) rfl (cs := #[.map (some m)]) (t := 99) (by first | rfl | (go_simp; done) | (go_simp; rfl)) ?_; intro mb hgg w2 hbmb hBmb;  have hmw : w1.heap.size ≤ mb := (by omega); have HMB := Lib.hid hbmb; have HB2 := Lib.hid hBmb; clear hgg hbmb hBmb) | ((with_reducible refine gate_dst (N := 4) rfl ?_); refine box_event rfl (N := 4) rfl (cs := zerosE) (t := 26) (by first | rfl | (go_simp; done) | (go_simp; rfl)) ?_; intro rb hgg w3 hbrb hBrb;  have hrw : w2.heap.size ≤ rb := (by omega); have HR := Lib.hid hbrb; have HB3 := Lib.hid hBrb; clear hgg hbrb hBrb))
  have HB : Hid (Below W.heap.size W w3) := Lib.hid ((HB1.out.trans (HB2.out.mono HB1.out.size)).trans (HB3.out.mono (Nat.le_trans HB1.out.size HB2.out.size)))
  have hg3 : w3.heap[g]? = some (.cells (exC e A c) 26 (0, 0)) := (HB3.out.block g (Nat.lt_of_lt_of_le (blk_lt HG.out) HB2.out.size)).trans ((HB2.out.block g (blk_lt HG.out)).trans HG.out)
  have hm3 : w3.heap[mb]? = some (.cells #[.map (some m)] 99 (0, 0)) := (HB3.out.block mb (blk_lt HMB.out)).trans HMB.out
  have hgm : g ≠ mb := by have := blk_lt HG.out; omega
  have hgr : g ≠ rb := by have := blk_lt HG.out; have := HB2.out.size; omega
  have hmr : mb ≠ rb := by have := blk_lt HMB.out; omega
  have hrw' : W.heap.size ≤ rb := by have := HB1.out.size; have := HB2.out.size; omega
  have hmw' : W.heap.size ≤ mb := by have := HB1.out.size; omega
  obtain ⟨hz0, hz1, hz2, hz3, hz4, hz5, hz6, hz7, hz8⟩ := bkC9 hg3
  have HEC := Lib.hid (HEA.out w3 mb HB.out hm3)
  have HG3 := Lib.hid hg3; have HM3 := Lib.hid hm3; have HR3 := HR
  clear hg3 hm3 HG HMB HR HB1 HB2 HB3 HEA hmw hrw
  go_upto_region 2 with (go_at_call 67; refine HEC.out.mono ?_; rintro r w4 ⟨v, rfl, hN, hB4⟩; obtain ⟨A5, c5, rfl, hc5, -⟩ := Kd.N_reads hN; have hg4 := (hB4.block g (blk_lt HG3.out)).trans HG3.out; have HG4 := Lib.hid hg4; have HN4 := Lib.hid hN; have HB4 := Lib.hid hB4; have hy8 : w4.cell? ⟨g, 8, none⟩ = some (.slice A e.f6.length c) := (bkC hg4 8).trans rfl; have hf8 := bkF hg4 8; clear hN hB4 hg4)
  clear hz0 hz1 hz2 hz3 hz4 hz5 hz6 hz7 hz8 hy8 hf8 HEC
  obtain ⟨e5, he5⟩ : ∃ e5 : Ex, e5 = ⟨e.f0, e.f1, e.f2, e.f3, e.f4, e.f5, l⟩ := ⟨_, rfl⟩
  have HE5 := Lib.hid he5
  have HL5 : Hid (e5.f6 = l) := Lib.hid (by rw [he5])
  have HG5 : Hid ((w4.setCell ⟨g, 8, none⟩ (.slice A5 l.length c5)).heap[g]? = some (.cells (exC e5 A5 c5) 26 (0, 0))) := Lib.hid (by
    have h := blk_set HG4.out 8 (.slice A5 l.length c5)
    rw [h, he5]; rfl)
  have hop5 : e.f0 = e5.f0 := by rw [he5]
  have HM5 : Hid ((w4.setCell ⟨g, 8, none⟩ (.slice A5 l.length c5)).heap[mb]? = some (.cells #[.map (some m)] 99 (0, 0))) := Lib.hid ((Below.heap_setCell _ ⟨g, 8, none⟩ _ mb hgm.symm).trans ((HB4.out.block mb (blk_lt HM3.out)).trans HM3.out))
  have HR5 : Hid ((w4.setCell ⟨g, 8, none⟩ (.slice A5 l.length c5)).heap[rb]? = some (.cells zerosE 26 (0, 0))) := Lib.hid ((Below.heap_setCell _ ⟨g, 8, none⟩ _ rb hgr.symm).trans ((HB4.out.block rb (blk_lt HR3.out)).trans HR3.out))
  have HB5 : Hid (Below W.heap.size W (w4.setCell ⟨g, 8, none⟩ (.slice A5 l.length c5))) := Lib.hid ((HB.out.trans (HB4.out.mono HB.out.size)).setCell (p := ⟨g, 8, none⟩) hgw _)
  have hg3s : g < w3.heap.size := blk_lt HG3.out
  have hr3s : rb < w3.heap.size := blk_lt HR3.out
  have HN5 : Hid (Kd.N KX TX (w4.setCell ⟨g, 8, none⟩ (.slice A5 l.length c5)) w3.heap.size (fun k => w3.heap.size ≤ k) (.slice A5 l.length c5) l) := Lib.hid (Kd.N_far HN4.out (fun k hk => by show k ≠ g; omega) _)
  have hW3 := HB.out.size
  rw [hop5] at hop
  have HOP := Lib.hid hop5; have HEE := Lib.hid he5
  clear HG4 HN4 HG3 HM3 HR3 HB4 he5 hop5
  generalize w4.setCell ⟨g, 8, none⟩ (.slice A5 l.length c5) = w5 at HG5 HM5 HR5 HB5 HN5 ⊢
  have HTU : Hid (¬ turnV e5.f0 = 0 → l.length = 2) := Lib.hid (fun h => by rw [← HOP.out] at h; rw [HLN.out]; exact turnV_two HRT.out h)
  have hlk := HLK.out w5 HB5.out
  rw [HOP.out] at hlk
  have hg5 := HG5.out; have hm5 := HM5.out
  obtain ⟨hz0, hz1, hz2, hz3, hz4, hz5, hz6, hz7, hz8⟩ := bkC9 hg5
  have hmc : w5.cell? ⟨mb, 0, none⟩ = some (.map (some m)) := (bkC hm5 0).trans rfl
  clear hg5 hm5
  obtain ⟨tv, htv⟩ : ∃ tv, turnV e5.f0 = tv := ⟨_, rfl⟩
  rw [htv] at hlk HTU
  have HTV := Lib.hid htv
  have HY5 : Hid (y = ⟨(turnF e5.f0 l).1, e5.f1, e5.f2, e5.f3, e5.f4, e5.f5, (turnF e5.f0 l).2⟩) := Lib.hid (by rw [HY.out, HEE.out])
  clear htv HY
  go_upto_region 3 with fail
  by_cases h0 : tv = 0
  · have b0 : (tv != 0) = false := bne_eq_false_iff_eq.mpr h0
    have hye : y = e5 := by rw [HY5.out]; unfold turnF; rw [HTV.out, if_pos h0]; exact ex_eta e5 HL5.out
    clear h0
    have hlc : e5.f6.length ≤ c5 := by rw [HL5.out]; exact hc5
    simp only [b0]
    go_region
    have HGd : Hid (w5.drew.heap[g]? = some (.cells (exC e5 A5 c5) 26 (0, 0))) := Lib.hid HG5.out; have HRd : Hid (w5.drew.heap[rb]? = some (.cells zerosE 26 (0, 0))) := Lib.hid HR5.out; have HBd : Hid (Below W.heap.size W w5.drew) := Lib.hid (below_drew HB5.out); have HNd : Hid (Kd.N KX TX w5.drew w3.heap.size (fun k => w3.heap.size ≤ k) (.slice A5 l.length c5) l) := Lib.hid (Kd.N_drew HN5.out); generalize w5.drew = wd at HGd HRd HBd HNd ⊢; have hgd := HGd.out; obtain ⟨hw0, hw1, hw2, hw3, hw4, hw5, hw6, hw7, hw8⟩ := bkC9 hgd; clear hgd
    have hrd := HRd.out
    have hy0 : wd.cell? ⟨rb, 0, none⟩ = some (.int .i64 0) := (bkC hrd 0).trans rfl; have hf0 := bkF hrd 0; have hy1 : wd.cell? ⟨rb, 1, none⟩ = some (.int .i64 0) := (bkC hrd 1).trans rfl; have hf1 := bkF hrd 1; have hy2 : wd.cell? ⟨rb, 2, none⟩ = some (.int .i64 0) := (bkC hrd 2).trans rfl; have hf2 := bkF hrd 2; have hy3 : wd.cell? ⟨rb, 3, none⟩ = some (.string ⟨#[]⟩) := (bkC hrd 3).trans rfl; have hf3 := bkF hrd 3; have hy4 : wd.cell? ⟨rb, 4, none⟩ = some (.int .i64 0) := (bkC hrd 4).trans rfl; have hf4 := bkF hrd 4; have hy5 : wd.cell? ⟨rb, 5, none⟩ = some (.int .i64 0) := (bkC hrd 5).trans rfl; have hf5 := bkF hrd 5; have hy6 : wd.cell? ⟨rb, 6, none⟩ = some (.int .i64 0) := (bkC hrd 6).trans rfl; have hf6 := bkF hrd 6; have hy7 : wd.cell? ⟨rb, 7, none⟩ = some (.string ⟨#[]⟩) := (bkC hrd 7).trans rfl; have hf7 := bkF hrd 7; have hy8 : wd.cell? ⟨rb, 8, none⟩ = some (.slice none 0 0) := (bkC hrd 8).trans rfl; have hf8 := bkF hrd 8
    clear hrd
    go_wp2_with fail
    have HFD : Hid (Kd.F KX wd (fun b => w3.heap.size ≤ b) A5 e5.f6.length e5.f6) := by
      have h := Kd.N_F HNd.out
      rw [← HL5.out] at h; exact Lib.hid h
    rw [hye]
    refine bodyPost_ret (results_cell_row rfl _ _ rb 26 (exC e5 A5 c5) (0, 0) _ rfl (ex_put0 HRd.out e5 A5 c5) Tryz.underlying26 rfl (info_ex _ _ _)) rfl ?_; exact ⟨A5, c5, rfl, hlc, Kd.F_mono (Kd.F_step HFD.out (fun b hb hlt => ex_heap (show b ≠ rb by have : w3.heap.size ≤ b := hb; omega) e5 A5 c5)) (fun b hb => Nat.le_trans hW3 hb), ex_below HBd.out hrw' e5 A5 c5⟩
  · have b0 : (tv != 0) = true := bne_iff_ne.mpr h0
    obtain ⟨lb, cap, hsl, hlb, hlbs, _⟩ := Kd.N_form HN5.out (by have := HTU.out h0; omega)
    obtain ⟨rfl, rfl⟩ : A5 = some ⟨lb, 0, none⟩ ∧ c5 = cap := by injection hsl with e1 _ e3; exact ⟨e1, e3⟩
    clear hsl
    have hglb : g ≠ lb := by omega
    have hrlb : rb ≠ lb := by omega
    by_cases ht1 : tv = e5.f0
    · have b1 : (tv != e5.f0) = false := bne_eq_false_iff_eq.mpr ht1
      obtain ⟨a, b, hab⟩ : ∃ a b, l = [a, b] := by
        have h := HTU.out h0
        match l, h with
        | [a, b], _ => exact ⟨a, b, rfl⟩
      have hC5 := (Kd.N_reads' HN5.out).2.2
      have hlen2 : l.length = 2 := HTU.out h0
      have HYC : Hid (y = ⟨(if lessT b a = true then (e5.f0, l.reverse) else (e5.f0, l)).1, e5.f1, e5.f2, e5.f3, e5.f4, e5.f5, (if lessT b a = true then (e5.f0, l.reverse) else (e5.f0, l)).2⟩) := by
        have h := HY5.out
        unfold turnF at h
        rw [HTV.out, if_neg h0, if_pos ht1, hab] at h
        rw [hab]; exact Lib.hid h
      have hra : rngF a = true := HLR.out a (by rw [hab]; exact .head _)
      have hrb : rngF b = true := HLR.out b (by rw [hab]; exact .tail _ (.head _))
      have hl0 : (0 : Int) < (l.length : Int) := by omega
      have hl1 : (1 : Int) < (l.length : Int) := by omega
      have hl0' : 0 < l.length := by omega
      clear h0
      obtain ⟨ad, Aa, ca, x, had, HE, h0, h1, h2, h3, h4, h5, h6, h7, h8, hca, hCa⟩ := at_ex hC5 rfl 0 (by omega)
      rw [hab] at HE
      obtain rfl : a = x := Option.some.inj HE
      obtain rfl := Option.some.inj had
      have ua0 : w5.cell? ⟨lb, 0, none⟩ = some (.int .i64 a.f0) := h0; have ua1 : w5.cell? ⟨lb, 1, none⟩ = some (.int .i64 a.f1.f0) := h1; have ua2 : w5.cell? ⟨lb, 2, none⟩ = some (.int .i64 a.f1.f1) := h2; have ua3 : w5.cell? ⟨lb, 3, none⟩ = some (.string a.f1.f2) := h3; have ua4 : w5.cell? ⟨lb, 4, none⟩ = some (.int .i64 a.f2) := h4; have ua5 : w5.cell? ⟨lb, 5, none⟩ = some (.int .i64 a.f3) := h5; have ua6 : w5.cell? ⟨lb, 6, none⟩ = some (.int .i64 a.f4) := h6; have ua7 : w5.cell? ⟨lb, 7, none⟩ = some (.string a.f5) := h7; have ua8 : w5.cell? ⟨lb, 8, none⟩ = some (.slice Aa a.f6.length ca) := h8
      have da0 : w5.drew.cell? ⟨lb, 0, none⟩ = some (.int .i64 a.f0) := h0; have da1 : w5.drew.cell? ⟨lb, 1, none⟩ = some (.int .i64 a.f1.f0) := h1; have da2 : w5.drew.cell? ⟨lb, 2, none⟩ = some (.int .i64 a.f1.f1) := h2; have da3 : w5.drew.cell? ⟨lb, 3, none⟩ = some (.string a.f1.f2) := h3; have da4 : w5.drew.cell? ⟨lb, 4, none⟩ = some (.int .i64 a.f2) := h4; have da5 : w5.drew.cell? ⟨lb, 5, none⟩ = some (.int .i64 a.f3) := h5; have da6 : w5.drew.cell? ⟨lb, 6, none⟩ = some (.int .i64 a.f4) := h6; have da7 : w5.drew.cell? ⟨lb, 7, none⟩ = some (.string a.f5) := h7; have da8 : w5.drew.cell? ⟨lb, 8, none⟩ = some (.slice Aa a.f6.length ca) := h8
      clear h0 h1 h2 h3 h4 h5 h6 h7 h8 HE had
      obtain ⟨ad, Ab, cb, x, had, HE, h0, h1, h2, h3, h4, h5, h6, h7, h8, hcb, hCb⟩ := at_ex hC5 rfl 1 (by omega)
      rw [hab] at HE
      obtain rfl : b = x := Option.some.inj HE
      obtain rfl := Option.some.inj had
      have ub0 : w5.cell? ⟨lb, 9, none⟩ = some (.int .i64 b.f0) := h0; have ub1 : w5.cell? ⟨lb, 10, none⟩ = some (.int .i64 b.f1.f0) := h1; have ub2 : w5.cell? ⟨lb, 11, none⟩ = some (.int .i64 b.f1.f1) := h2; have ub3 : w5.cell? ⟨lb, 12, none⟩ = some (.string b.f1.f2) := h3; have ub4 : w5.cell? ⟨lb, 13, none⟩ = some (.int .i64 b.f2) := h4; have ub5 : w5.cell? ⟨lb, 14, none⟩ = some (.int .i64 b.f3) := h5; have ub6 : w5.cell? ⟨lb, 15, none⟩ = some (.int .i64 b.f4) := h6; have ub7 : w5.cell? ⟨lb, 16, none⟩ = some (.string b.f5) := h7; have ub8 : w5.cell? ⟨lb, 17, none⟩ = some (.slice Ab b.f6.length cb) := h8
      have db0 : w5.drew.cell? ⟨lb, 9, none⟩ = some (.int .i64 b.f0) := h0; have db1 : w5.drew.cell? ⟨lb, 10, none⟩ = some (.int .i64 b.f1.f0) := h1; have db2 : w5.drew.cell? ⟨lb, 11, none⟩ = some (.int .i64 b.f1.f1) := h2; have db3 : w5.drew.cell? ⟨lb, 12, none⟩ = some (.string b.f1.f2) := h3; have db4 : w5.drew.cell? ⟨lb, 13, none⟩ = some (.int .i64 b.f2) := h4; have db5 : w5.drew.cell? ⟨lb, 14, none⟩ = some (.int .i64 b.f3) := h5; have db6 : w5.drew.cell? ⟨lb, 15, none⟩ = some (.int .i64 b.f4) := h6; have db7 : w5.drew.cell? ⟨lb, 16, none⟩ = some (.string b.f5) := h7; have db8 : w5.drew.cell? ⟨lb, 17, none⟩ = some (.slice Ab b.f6.length cb) := h8
      clear h0 h1 h2 h3 h4 h5 h6 h7 h8 HE had
      have dg0 : w5.drew.cell? ⟨g, 0, none⟩ = some (.int .i64 e5.f0) := hz0
      have dg8 : w5.drew.cell? ⟨g, 8, none⟩ = some (.slice (some ⟨lb, 0, none⟩) e5.f6.length c5) := hz8
      have HTA : Hid (∀ W2, Below w5.heap.size w5 W2 → Calls Tryz.prog 43 #[.agg (exC a Aa ca)] W2 fun r w'' => r = .returned (.string (txt a)) ∧ Below W2.heap.size W2 w'') := Lib.hid (fun W2 hW => text_ok a Aa ca W2 (HTW.out W2 (HB5.out.trans (hW.mono HB5.out.size))) hra (Kd.C_below hCa hW) hca)
      have HTB : Hid (∀ R : Ending → World → Prop, (∀ r w'', r = .returned (.string (txt b)) ∧ Below w5.drew.heap.size w5.drew w'' → R r w'') → Calls Tryz.prog 43 #[.agg (exC b Ab cb)] w5.drew R) := Lib.hid (fun R hR => (text_ok b Ab cb w5.drew (HTW.out _ (below_drew HB5.out)) hrb (Kd.C_below hCb (below_drew (Below.refl _ _))) hcb).mono hR)
      have HLS : Hid (lessT b a = Op.bytesLess (txt b).toList (txt a).toList) := Lib.hid (by unfold lessT tl; rw [bytesLess_eq, ByteArray.toList_eq, ByteArray.toList_eq])
      have HAB := Lib.hid hab; have HT1 := Lib.hid ht1
      clear hC5 hCa hCb hra hrb hlen2 hab ht1
      generalize txt a = ta at HTA HLS
      generalize txt b = tb at HTB HLS
      obtain ⟨bl, hbl⟩ : ∃ bl, Op.bytesLess tb.toList ta.toList = bl := ⟨_, rfl⟩
      rw [hbl] at HLS
      unfold exC at HTA HTB
      rw [HL5.out] at hz8 dg8
      simp only [b0]
      go_region_held3 (fun w' => w'.cell? ⟨g, 0, none⟩ = some (.int .i64 e5.f0) ∧ w'.cell? ⟨g, 8, none⟩ = some (.slice (some ⟨lb, 0, none⟩) l.length c5) ∧ w'.cell? ⟨lb, 0, none⟩ = some (.int .i64 a.f0) ∧ w'.cell? ⟨lb, 1, none⟩ = some (.int .i64 a.f1.f0) ∧ w'.cell? ⟨lb, 2, none⟩ = some (.int .i64 a.f1.f1) ∧ w'.cell? ⟨lb, 3, none⟩ = some (.string a.f1.f2) ∧ w'.cell? ⟨lb, 4, none⟩ = some (.int .i64 a.f2) ∧ w'.cell? ⟨lb, 5, none⟩ = some (.int .i64 a.f3) ∧ w'.cell? ⟨lb, 6, none⟩ = some (.int .i64 a.f4) ∧ w'.cell? ⟨lb, 7, none⟩ = some (.string a.f5) ∧ w'.cell? ⟨lb, 8, none⟩ = some (.slice Aa a.f6.length ca) ∧ w'.cell? ⟨lb, 9, none⟩ = some (.int .i64 b.f0) ∧ w'.cell? ⟨lb, 10, none⟩ = some (.int .i64 b.f1.f0) ∧ w'.cell? ⟨lb, 11, none⟩ = some (.int .i64 b.f1.f1) ∧ w'.cell? ⟨lb, 12, none⟩ = some (.string b.f1.f2) ∧ w'.cell? ⟨lb, 13, none⟩ = some (.int .i64 b.f2) ∧ w'.cell? ⟨lb, 14, none⟩ = some (.int .i64 b.f3) ∧ w'.cell? ⟨lb, 15, none⟩ = some (.int .i64 b.f4) ∧ w'.cell? ⟨lb, 16, none⟩ = some (.string b.f5) ∧ w'.cell? ⟨lb, 17, none⟩ = some (.slice Ab b.f6.length cb)) (go_keep) (first
        | (go_at_call 43; with_reducible refine HTB.out _ ?_; rintro r wc ⟨rfl, hBc⟩; have cg0 := pw_cell_below hBc dg0; have cg8 := pw_cell_below hBc dg8; have ra0 := pw_cell_below hBc da0; have ra1 := pw_cell_below hBc da1; have ra2 := pw_cell_below hBc da2; have ra3 := pw_cell_below hBc da3; have ra4 := pw_cell_below hBc da4; have ra5 := pw_cell_below hBc da5; have ra6 := pw_cell_below hBc da6; have ra7 := pw_cell_below hBc da7; have ra8 := pw_cell_below hBc da8; have rc0 := pw_cell_below hBc db0; have rc1 := pw_cell_below hBc db1; have rc2 := pw_cell_below hBc db2; have rc3 := pw_cell_below hBc db3; have rc4 := pw_cell_below hBc db4; have rc5 := pw_cell_below hBc db5; have rc6 := pw_cell_below hBc db6; have rc7 := pw_cell_below hBc db7; have rc8 := pw_cell_below hBc db8)
        | (go_at_call 43; have HX := HTA.out wc (⟨hBc.os, hBc.tape, hBc.output, hBc.size, hBc.block⟩ : Below w5.heap.size w5 wc); with_reducible refine HX.mono ?_; rintro r wd ⟨rfl, hBd⟩; have eg0 := pw_cell_below hBd cg0; have eg8 := pw_cell_below hBd cg8; have sa0 := pw_cell_below hBd ra0; have sa1 := pw_cell_below hBd ra1; have sa2 := pw_cell_below hBd ra2; have sa3 := pw_cell_below hBd ra3; have sa4 := pw_cell_below hBd ra4; have sa5 := pw_cell_below hBd ra5; have sa6 := pw_cell_below hBd ra6; have sa7 := pw_cell_below hBd ra7; have sa8 := pw_cell_below hBd ra8; have sb0 := pw_cell_below hBd rc0; have sb1 := pw_cell_below hBd rc1; have sb2 := pw_cell_below hBd rc2; have sb3 := pw_cell_below hBd rc3; have sb4 := pw_cell_below hBd rc4; have sb5 := pw_cell_below hBd rc5; have sb6 := pw_cell_below hBd rc6; have sb7 := pw_cell_below hBd rc7; have sb8 := pw_cell_below hBd rc8))
      clear ua0 ua1 ua2 ua3 ua4 ua5 ua6 ua7 ua8 da0 da1 da2 da3 da4 da5 da6 da7 da8 ub0 ub1 ub2 ub3 ub4 ub5 ub6 ub7 ub8 db0 db1 db2 db3 db4 db5 db6 db7 db8 ra0 ra1 ra2 ra3 ra4 ra5 ra6 ra7 ra8 rc0 rc1 rc2 rc3 rc4 rc5 rc6 rc7 rc8 sa0 sa1 sa2 sa3 sa4 sa5 sa6 sa7 sa8 sb0 sb1 sb2 sb3 sb4 sb5 sb6 sb7 sb8 dg0 dg8 cg0 cg8 eg0 eg8 hl0 hl1 hl0' hz0 hz1 hz2 hz3 hz4 hz5 hz6 hz7 hz8 hlk hmc HTA HTB
      have HBcd : Hid (Below w5.heap.size w5 wd) := Lib.hid ((⟨hBc.os, hBc.tape, hBc.output, hBc.size, hBc.block⟩ : Below w5.heap.size w5 wc).trans (hBd.mono hBc.size))
      clear hBc hBd
      have HGd : Hid (wd.heap[g]? = some (.cells (exC e5 (some ⟨lb, 0, none⟩) c5) 26 (0, 0))) := Lib.hid ((HBcd.out.block g (blk_lt HG5.out)).trans HG5.out)
      have HRd : Hid (wd.heap[rb]? = some (.cells zerosE 26 (0, 0))) := Lib.hid ((HBcd.out.block rb (blk_lt HR5.out)).trans HR5.out)
      have HBd : Hid (Below W.heap.size W wd) := Lib.hid (HB5.out.trans (HBcd.out.mono HB5.out.size))
      have HNd : Hid (Kd.N KX TX wd w3.heap.size (fun k => w3.heap.size ≤ k) (.slice (some ⟨lb, 0, none⟩) l.length c5) l) := Lib.hid (Kd.N_below HN5.out HBcd.out)
      have hgd := HGd.out
      obtain ⟨hw0, hw1, hw2, hw3, hw4, hw5, hw6, hw7, hw8⟩ := bkC9 hgd; clear hgd
      cases bl with
      | true =>
        have hf0 := bkF HGd.out 0
        obtain ⟨e6, he6⟩ : ∃ e6 : Ex, e6 = ⟨tv, e5.f1, e5.f2, e5.f3, e5.f4, e5.f5, l.reverse⟩ := ⟨_, rfl⟩
        have hye : y = e6 := by rw [HYC.out, he6, HT1.out]; rw [if_pos HLS.out]
        have hl6 : e6.f6 = l.reverse := by rw [he6]
        have hl6n : e6.f6.length = l.length := by rw [hl6, List.length_reverse]
        have HE6 := Lib.hid he6
        clear he6
        have HL6 := Lib.hid hl6; have HL6N := Lib.hid hl6n; have HYE := Lib.hid hye
        clear hl6 hl6n hye
        go_upto_region 5 with fail
        have HG6 : Hid ((wd.setCell ⟨g, 0, none⟩ (.int .i64 tv)).heap[g]? = some (.cells (exC e6 (some ⟨lb, 0, none⟩) c5) 26 (0, 0))) := Lib.hid (by
          refine (blk_set HGd.out 0 (.int .i64 tv)).trans (congrArg (fun a => some (Obj.cells a 26 (0, 0))) ?_)
          unfold exC
          rw [HL6N.out, HL5.out, HE6.out]
          simp)
        clear hbl b0
        have HR6 : Hid ((wd.setCell ⟨g, 0, none⟩ (.int .i64 tv)).heap[rb]? = some (.cells zerosE 26 (0, 0))) := Lib.hid ((Below.heap_setCell _ ⟨g, 0, none⟩ _ rb hgr.symm).trans HRd.out); have HB6 : Hid (Below W.heap.size W (wd.setCell ⟨g, 0, none⟩ (.int .i64 tv))) := Lib.hid (HBd.out.setCell (p := ⟨g, 0, none⟩) hgw _); have HN6 : Hid (Kd.N KX TX (wd.setCell ⟨g, 0, none⟩ (.int .i64 tv)) w3.heap.size (fun k => w3.heap.size ≤ k) (.slice (some ⟨lb, 0, none⟩) l.length c5) l) := Lib.hid (Kd.N_far HNd.out (fun k (hk : w3.heap.size ≤ k) => show k ≠ g by omega) _); generalize wd.setCell ⟨g, 0, none⟩ (.int .i64 tv) = w6 at HG6 HR6 HB6 HN6 ⊢; have hg6 := HG6.out; have hy8 : w6.cell? ⟨g, 8, none⟩ = some (.slice (some ⟨lb, 0, none⟩) l.length c5) := (bkC hg6 8).trans (by unfold exC; rw [HL6N.out]; rfl); clear hg6; have hb6s : w3.heap.size ≤ w6.heap.size := (by have := blk_lt HR6.out; have h2 := Kd.N_lt HN6.out lb rfl; omega); have HRV := Lib.hid (rev_ok HLR.out (show l.length ≤ 9223372036854775807 by have := HLN.out; omega) HN6.out); go_upto_region 6 with (go_at_call 87; refine HRV.out.mono ?_; rintro r w7 ⟨rfl, hN7, hB7, hK7⟩; have HG7 := Lib.hid ((hK7 g hglb (blk_lt HG6.out)).trans HG6.out); have HR7 := Lib.hid ((hK7 rb hrlb (blk_lt HR6.out)).trans HR6.out); have HN7 := Lib.hid hN7; have HB7 := Lib.hid (hB7 W.heap.size (by omega) (by omega)); clear hN7 hB7 hK7); have hg7 := HG7.out; have hr7 := HR7.out; clear hy8; obtain ⟨hx0, hx1, hx2, hx3, hx4, hx5, hx6, hx7, hx8⟩ := bkC9 hg7; have hy0 : w7.cell? ⟨rb, 0, none⟩ = some (.int .i64 0) := (bkC hr7 0).trans rfl; have hf0 := bkF hr7 0; have hy1 : w7.cell? ⟨rb, 1, none⟩ = some (.int .i64 0) := (bkC hr7 1).trans rfl; have hf1 := bkF hr7 1; have hy2 : w7.cell? ⟨rb, 2, none⟩ = some (.int .i64 0) := (bkC hr7 2).trans rfl; have hf2 := bkF hr7 2; have hy3 : w7.cell? ⟨rb, 3, none⟩ = some (.string ⟨#[]⟩) := (bkC hr7 3).trans rfl; have hf3 := bkF hr7 3; have hy4 : w7.cell? ⟨rb, 4, none⟩ = some (.int .i64 0) := (bkC hr7 4).trans rfl; have hf4 := bkF hr7 4; have hy5 : w7.cell? ⟨rb, 5, none⟩ = some (.int .i64 0) := (bkC hr7 5).trans rfl; have hf5 := bkF hr7 5; have hy6 : w7.cell? ⟨rb, 6, none⟩ = some (.int .i64 0) := (bkC hr7 6).trans rfl; have hf6 := bkF hr7 6; have hy7 : w7.cell? ⟨rb, 7, none⟩ = some (.string ⟨#[]⟩) := (bkC hr7 7).trans rfl; have hf7 := bkF hr7 7; have hy8 : w7.cell? ⟨rb, 8, none⟩ = some (.slice none 0 0) := (bkC hr7 8).trans rfl; have hf8 := bkF hr7 8; clear hg7 hr7; go_wp2_with fail; rw [HYE.out]; have HF7 : Hid (Kd.F KX w7 (fun b => w3.heap.size ≤ b) (some ⟨lb, 0, none⟩) e6.f6.length e6.f6) := (by have h := Kd.N_F HN7.out; rw [← HL6N.out] at h; rw [← HL6.out] at h; exact Lib.hid h); have hlc : e6.f6.length ≤ c5 := (by rw [HL6N.out]; exact hc5); refine bodyPost_ret (results_cell_row rfl _ _ rb 26 (exC e6 (some ⟨lb, 0, none⟩) c5) (0, 0) _ rfl (ex_put0 HR7.out e6 (some ⟨lb, 0, none⟩) c5) Tryz.underlying26 rfl (info_ex _ _ _)) rfl ?_; exact ⟨(some ⟨lb, 0, none⟩), c5, rfl, hlc, Kd.F_mono (Kd.F_step HF7.out (fun b hb hlt => ex_heap (show b ≠ rb by have : w3.heap.size ≤ b := hb; omega) e6 (some ⟨lb, 0, none⟩) c5)) (fun b hb => Nat.le_trans hW3 hb), ex_below (HB6.out.trans HB7.out) hrw' e6 (some ⟨lb, 0, none⟩) c5⟩
      | false =>
        have HYE : Hid (y = e5) := Lib.hid (by rw [HYC.out, if_neg (by rw [HLS.out]; decide)]; exact ex_eta e5 HL5.out)
        have hlc : e5.f6.length ≤ c5 := by rw [HL5.out]; exact hc5
        have hrd := HRd.out
        have hy0 : wd.cell? ⟨rb, 0, none⟩ = some (.int .i64 0) := (bkC hrd 0).trans rfl; have hf0 := bkF hrd 0; have hy1 : wd.cell? ⟨rb, 1, none⟩ = some (.int .i64 0) := (bkC hrd 1).trans rfl; have hf1 := bkF hrd 1; have hy2 : wd.cell? ⟨rb, 2, none⟩ = some (.int .i64 0) := (bkC hrd 2).trans rfl; have hf2 := bkF hrd 2; have hy3 : wd.cell? ⟨rb, 3, none⟩ = some (.string ⟨#[]⟩) := (bkC hrd 3).trans rfl; have hf3 := bkF hrd 3; have hy4 : wd.cell? ⟨rb, 4, none⟩ = some (.int .i64 0) := (bkC hrd 4).trans rfl; have hf4 := bkF hrd 4; have hy5 : wd.cell? ⟨rb, 5, none⟩ = some (.int .i64 0) := (bkC hrd 5).trans rfl; have hf5 := bkF hrd 5; have hy6 : wd.cell? ⟨rb, 6, none⟩ = some (.int .i64 0) := (bkC hrd 6).trans rfl; have hf6 := bkF hrd 6; have hy7 : wd.cell? ⟨rb, 7, none⟩ = some (.string ⟨#[]⟩) := (bkC hrd 7).trans rfl; have hf7 := bkF hrd 7; have hy8 : wd.cell? ⟨rb, 8, none⟩ = some (.slice none 0 0) := (bkC hrd 8).trans rfl; have hf8 := bkF hrd 8
        clear hrd
        go_wp2_with fail
        have HFD : Hid (Kd.F KX wd (fun b => w3.heap.size ≤ b) (some ⟨lb, 0, none⟩) e5.f6.length e5.f6) := by
          have h := Kd.N_F HNd.out
          rw [← HL5.out] at h; exact Lib.hid h
        rw [HYE.out, ← HL5.out]
        refine bodyPost_ret (results_cell_row rfl _ _ rb 26 (exC e5 (some ⟨lb, 0, none⟩) c5) (0, 0) _ rfl (ex_put0 HRd.out e5 (some ⟨lb, 0, none⟩) c5) Tryz.underlying26 rfl (info_ex _ _ _)) rfl ?_; exact ⟨(some ⟨lb, 0, none⟩), c5, rfl, hlc, Kd.F_mono (Kd.F_step HFD.out (fun b hb hlt => ex_heap (show b ≠ rb by have : w3.heap.size ≤ b := hb; omega) e5 (some ⟨lb, 0, none⟩) c5)) (fun b hb => Nat.le_trans hW3 hb), ex_below HBd.out hrw' e5 (some ⟨lb, 0, none⟩) c5⟩
    · have b1 : (tv != e5.f0) = true := bne_iff_ne.mpr ht1
      obtain ⟨e6, he6⟩ : ∃ e6 : Ex, e6 = ⟨tv, e5.f1, e5.f2, e5.f3, e5.f4, e5.f5, l.reverse⟩ := ⟨_, rfl⟩
      have hye : y = e6 := by rw [HY5.out, he6]; unfold turnF; rw [HTV.out, if_neg h0, if_neg ht1]
      have hl6 : e6.f6 = l.reverse := by rw [he6]
      have hl6n : e6.f6.length = l.length := by rw [hl6, List.length_reverse]
      simp only [b0]
      go_region
      have HGd : Hid (w5.drew.heap[g]? = some (.cells (exC e5 (some ⟨lb, 0, none⟩) c5) 26 (0, 0))) := Lib.hid HG5.out; have HRd : Hid (w5.drew.heap[rb]? = some (.cells zerosE 26 (0, 0))) := Lib.hid HR5.out; have HBd : Hid (Below W.heap.size W w5.drew) := Lib.hid (below_drew HB5.out); have HNd : Hid (Kd.N KX TX w5.drew w3.heap.size (fun k => w3.heap.size ≤ k) (.slice (some ⟨lb, 0, none⟩) l.length c5) l) := Lib.hid (Kd.N_drew HN5.out); generalize w5.drew = wd at HGd HRd HBd HNd ⊢; have hgd := HGd.out; obtain ⟨hw0, hw1, hw2, hw3, hw4, hw5, hw6, hw7, hw8⟩ := bkC9 hgd; clear hgd
      have hf0 := bkF HGd.out 0
      go_upto_region 5 with fail
      have HG6 : Hid ((wd.setCell ⟨g, 0, none⟩ (.int .i64 tv)).heap[g]? = some (.cells (exC e6 (some ⟨lb, 0, none⟩) c5) 26 (0, 0))) := Lib.hid (by
        refine (blk_set HGd.out 0 (.int .i64 tv)).trans (congrArg (fun a => some (Obj.cells a 26 (0, 0))) ?_)
        unfold exC
        rw [hl6n, HL5.out, he6]
        simp)
      have HL6 := Lib.hid hl6; have HL6N := Lib.hid hl6n; have HYE := Lib.hid hye
      clear hl6 hl6n he6 hye ht1 b1 h0 b0
      have HR6 : Hid ((wd.setCell ⟨g, 0, none⟩ (.int .i64 tv)).heap[rb]? = some (.cells zerosE 26 (0, 0))) := Lib.hid ((Below.heap_setCell _ ⟨g, 0, none⟩ _ rb hgr.symm).trans HRd.out); have HB6 : Hid (Below W.heap.size W (wd.setCell ⟨g, 0, none⟩ (.int .i64 tv))) := Lib.hid (HBd.out.setCell (p := ⟨g, 0, none⟩) hgw _); have HN6 : Hid (Kd.N KX TX (wd.setCell ⟨g, 0, none⟩ (.int .i64 tv)) w3.heap.size (fun k => w3.heap.size ≤ k) (.slice (some ⟨lb, 0, none⟩) l.length c5) l) := Lib.hid (Kd.N_far HNd.out (fun k (hk : w3.heap.size ≤ k) => show k ≠ g by omega) _); generalize wd.setCell ⟨g, 0, none⟩ (.int .i64 tv) = w6 at HG6 HR6 HB6 HN6 ⊢; have hg6 := HG6.out; have hy8 : w6.cell? ⟨g, 8, none⟩ = some (.slice (some ⟨lb, 0, none⟩) l.length c5) := (bkC hg6 8).trans (by unfold exC; rw [HL6N.out]; rfl); clear hg6; have hb6s : w3.heap.size ≤ w6.heap.size := (by have := blk_lt HR6.out; have h2 := Kd.N_lt HN6.out lb rfl; omega); have HRV := Lib.hid (rev_ok HLR.out (show l.length ≤ 9223372036854775807 by have := HLN.out; omega) HN6.out); go_upto_region 6 with (go_at_call 87; refine HRV.out.mono ?_; rintro r w7 ⟨rfl, hN7, hB7, hK7⟩; have HG7 := Lib.hid ((hK7 g hglb (blk_lt HG6.out)).trans HG6.out); have HR7 := Lib.hid ((hK7 rb hrlb (blk_lt HR6.out)).trans HR6.out); have HN7 := Lib.hid hN7; have HB7 := Lib.hid (hB7 W.heap.size (by omega) (by omega)); clear hN7 hB7 hK7); have hg7 := HG7.out; have hr7 := HR7.out; clear hy8; obtain ⟨hx0, hx1, hx2, hx3, hx4, hx5, hx6, hx7, hx8⟩ := bkC9 hg7; have hy0 : w7.cell? ⟨rb, 0, none⟩ = some (.int .i64 0) := (bkC hr7 0).trans rfl; have hf0 := bkF hr7 0; have hy1 : w7.cell? ⟨rb, 1, none⟩ = some (.int .i64 0) := (bkC hr7 1).trans rfl; have hf1 := bkF hr7 1; have hy2 : w7.cell? ⟨rb, 2, none⟩ = some (.int .i64 0) := (bkC hr7 2).trans rfl; have hf2 := bkF hr7 2; have hy3 : w7.cell? ⟨rb, 3, none⟩ = some (.string ⟨#[]⟩) := (bkC hr7 3).trans rfl; have hf3 := bkF hr7 3; have hy4 : w7.cell? ⟨rb, 4, none⟩ = some (.int .i64 0) := (bkC hr7 4).trans rfl; have hf4 := bkF hr7 4; have hy5 : w7.cell? ⟨rb, 5, none⟩ = some (.int .i64 0) := (bkC hr7 5).trans rfl; have hf5 := bkF hr7 5; have hy6 : w7.cell? ⟨rb, 6, none⟩ = some (.int .i64 0) := (bkC hr7 6).trans rfl; have hf6 := bkF hr7 6; have hy7 : w7.cell? ⟨rb, 7, none⟩ = some (.string ⟨#[]⟩) := (bkC hr7 7).trans rfl; have hf7 := bkF hr7 7; have hy8 : w7.cell? ⟨rb, 8, none⟩ = some (.slice none 0 0) := (bkC hr7 8).trans rfl; have hf8 := bkF hr7 8; clear hg7 hr7; go_wp2_with fail; rw [HYE.out]; have HF7 : Hid (Kd.F KX w7 (fun b => w3.heap.size ≤ b) (some ⟨lb, 0, none⟩) e6.f6.length e6.f6) := (by have h := Kd.N_F HN7.out; rw [← HL6N.out] at h; rw [← HL6.out] at h; exact Lib.hid h); have hlc : e6.f6.length ≤ c5 := (by rw [HL6N.out]; exact hc5); refine bodyPost_ret (results_cell_row rfl _ _ rb 26 (exC e6 (some ⟨lb, 0, none⟩) c5) (0, 0) _ rfl (ex_put0 HR7.out e6 (some ⟨lb, 0, none⟩) c5) Tryz.underlying26 rfl (info_ex _ _ _)) rfl ?_; exact ⟨(some ⟨lb, 0, none⟩), c5, rfl, hlc, Kd.F_mono (Kd.F_step HF7.out (fun b hb hlt => ex_heap (show b ≠ rb by have : w3.heap.size ≤ b := hb; omega) e6 (some ⟨lb, 0, none⟩) c5)) (fun b hb => Nat.le_trans hW3 hb), ex_below (HB6.out.trans HB7.out) hrw' e6 (some ⟨lb, 0, none⟩) c5⟩
theorem normal_ok : ∀ (N : Nat) (e : Ex), SizeOf.sizeOf e < N → NormalOk e
  | 0, e, h => by omega
  | N + 1, e, h => normal_step e (fun x hx => normal_ok N x (by
      have h1 := List.sizeOf_lt_of_mem hx
      cases e; simp at h h1 ⊢; omega))
def zeroX : Ex := ⟨0, ⟨0, 0, ⟨#[]⟩⟩, 0, 0, 0, ⟨#[]⟩, []⟩
def normalRes (e : Ex) : Ex × Int := if rightB e = true then (normF e, 0) else (zeroX, 1)
set_option maxHeartbeats 4000000 in
set_option maxRecDepth 100000 in
theorem Normal_ok (e : Ex) (A : Option Addr) (c : Nat) (w : World) (hT : TabW w) (hRg : rngF e = true) (hC : Kd.C KX w A e.f6.length e.f6) (hc : e.f6.length ≤ c) :
    Calls Tryz.prog 22 #[.agg (exC e A c)] w fun r w' => ∃ D k, r = .returned (.tuple #[.agg (exC (normalRes e).1 D k), .int .i64 (normalRes e).2]) ∧ (normalRes e).1.f6.length ≤ k ∧ Kd.F KX w' (fun b => w.heap.size ≤ b) D (normalRes e).1.f6.length (normalRes e).1.f6 ∧ Below w.heap.size w w' := by
  have HC := Lib.hid hC; have HT := Lib.hid hT
  have HRI : Hid (∀ W, Below w.heap.size w W → Calls Tryz.prog 50 #[.agg (exC e A c)] W fun r w' => r = .returned (.bool (rightB e)) ∧ Below W.heap.size W w') := Lib.hid (fun W hW => right_ok e A c W (Kd.C_below hC hW) hc)
  have HNO : Hid (rightB e = true → ∀ W m, Below w.heap.size w W → TurnsAt m W → Calls Tryz.prog 51 #[.agg (exC e A c), .map (some m)] W (NewE (normF e) W)) := Lib.hid (fun hr W m hW hm => normal_ok _ e (Nat.lt_succ_self _) A c W m (tab_at hT hW) hm (Rt.of hr) hRg hc (Kd.C_below hC hW))
  obtain ⟨q, hq⟩ : ∃ q, normalRes e = q := ⟨_, rfl⟩
  rw [hq]
  obtain ⟨y, er⟩ := q
  have HQ := Lib.hid hq
  obtain ⟨rt, hrt⟩ : ∃ rt, rightB e = rt := ⟨_, rfl⟩
  rw [hrt] at HRI HNO
  have HRT := Lib.hid hrt
  clear hC hT hRg hq hrt
  unfold exC at HRI HNO
  unfold exC
  go_enter Tryz.func22, Tryz.ntmps22
  go_upto_region 1 with (first | ((with_reducible refine gate_dst (N := 1) rfl ?_); refine box_event rfl (N := 1) rfl (cs := exC e A c) (t := 26) (by first | rfl | (go_simp; done) | (go_simp; rfl)) ?_; intro g hgg w1 hbg hBg;  have HG := Lib.hid hbg; have HB1 := Lib.hid hBg; clear hgg hbg hBg) | ((with_reducible refine gate_dst (N := 2) rfl ?_); refine box_event rfl (N := 2) rfl (cs := zerosE) (t := 26) (by first | rfl | (go_simp; done) | (go_simp; rfl)) ?_; intro rb hgg w2 hbrb hBrb;  have hrb : w1.heap.size ≤ rb := (by omega); have HR := Lib.hid hbrb; have HB2 := Lib.hid hBrb; clear hgg hbrb hBrb))
  have HB : Hid (Below w.heap.size w w2) := Lib.hid (HB1.out.trans (HB2.out.mono HB1.out.size))
  have hrbw : w.heap.size ≤ rb := by have := HB1.out.size; omega
  have hg2 := (HB2.out.block g (blk_lt HG.out)).trans HG.out
  obtain ⟨hz0, hz1, hz2, hz3, hz4, hz5, hz6, hz7, hz8⟩ := bkC9 hg2
  have HG2 := Lib.hid hg2
  have hgr : g ≠ rb := by have := blk_lt HG.out; omega
  have hrg : rb ≠ g := hgr.symm
  have HRC := Lib.hid (HRI.out w2 HB.out)
  clear hg2 HRI HB1 HB2 HG
  cases rt with
  | false =>
    have HQ2 : Hid ((zeroX, (1 : Int)) = (y, er)) := Lib.hid (by rw [← HQ.out]; unfold normalRes; rw [HRT.out]; rfl)
    obtain ⟨rfl, rfl⟩ := Prod.mk.inj HQ2.out
    go_upto_region 2 with (go_at_call 50; refine HRC.out.mono ?_; rintro r w3 ⟨rfl, hB3⟩; have HB3 := Lib.hid hB3; clear hB3)
    have HR3 := Lib.hid ((HB3.out.block rb (blk_lt HR.out)).trans HR.out)
    have hr3 := HR3.out
    clear hz0 hz1 hz2 hz3 hz4 hz5 hz6 hz7 hz8
    have hy0 : w3.cell? ⟨rb, 0, none⟩ = some (.int .i64 0) := (bkC hr3 0).trans rfl; have hf0 := bkF hr3 0; have hy1 : w3.cell? ⟨rb, 1, none⟩ = some (.int .i64 0) := (bkC hr3 1).trans rfl; have hf1 := bkF hr3 1; have hy2 : w3.cell? ⟨rb, 2, none⟩ = some (.int .i64 0) := (bkC hr3 2).trans rfl; have hf2 := bkF hr3 2; have hy3 : w3.cell? ⟨rb, 3, none⟩ = some (.string ⟨#[]⟩) := (bkC hr3 3).trans rfl; have hf3 := bkF hr3 3; have hy4 : w3.cell? ⟨rb, 4, none⟩ = some (.int .i64 0) := (bkC hr3 4).trans rfl; have hf4 := bkF hr3 4; have hy5 : w3.cell? ⟨rb, 5, none⟩ = some (.int .i64 0) := (bkC hr3 5).trans rfl; have hf5 := bkF hr3 5; have hy6 : w3.cell? ⟨rb, 6, none⟩ = some (.int .i64 0) := (bkC hr3 6).trans rfl; have hf6 := bkF hr3 6; have hy7 : w3.cell? ⟨rb, 7, none⟩ = some (.string ⟨#[]⟩) := (bkC hr3 7).trans rfl; have hf7 := bkF hr3 7; have hy8 : w3.cell? ⟨rb, 8, none⟩ = some (.slice none 0 0) := (bkC hr3 8).trans rfl; have hf8 := bkF hr3 8
    clear hr3
    go_wp2_with fail
    refine bodyPost_ret (results_ct (p := 2) (u := 3) rfl _ _ rb 26 (exC zeroX none 0) (0, 0) _ rfl (ex_put0 HR3.out zeroX none 0) Tryz.underlying26 rfl (info_ex _ _ _)) rfl ?_
    exact ⟨none, 0, rfl, Nat.le_refl 0, Kd.F_nil _ _ _, ex_below (HB.out.trans (HB3.out.mono HB.out.size)) hrbw zeroX none 0⟩
  | true =>
    have HQ2 : Hid ((normF e, (0 : Int)) = (y, er)) := Lib.hid (by rw [← HQ.out]; unfold normalRes; rw [HRT.out]; rfl)
    have HTD : Hid (∀ W, Calls Tryz.prog 52 #[] W fun r w' => ∃ m, r = .returned (.map (some m)) ∧ TurnsAt m w' ∧ Below W.heap.size W w') := Lib.hid (fun W => turned_ok W)
    have HNC : Hid (∀ W m, Below w.heap.size w W → TurnsAt m W → Calls Tryz.prog 51 #[.agg #[.int .i64 e.f0, .int .i64 e.f1.f0, .int .i64 e.f1.f1, .string e.f1.f2, .int .i64 e.f2, .int .i64 e.f3, .int .i64 e.f4, .string e.f5, .slice A e.f6.length c], .map (some m)] W fun r w' => ∃ D k, r = .returned (.agg #[.int .i64 (normF e).f0, .int .i64 (normF e).f1.f0, .int .i64 (normF e).f1.f1, .string (normF e).f1.f2, .int .i64 (normF e).f2, .int .i64 (normF e).f3, .int .i64 (normF e).f4, .string (normF e).f5, .slice D (normF e).f6.length k]) ∧ (normF e).f6.length ≤ k ∧ Kd.F KX w' (fun b => W.heap.size ≤ b) D (normF e).f6.length (normF e).f6 ∧ Below W.heap.size W w') := Lib.hid (HNO.out rfl)
    have hy := (Prod.mk.inj HQ2.out).1
    obtain rfl := (Prod.mk.inj HQ2.out).2
    rw [hy] at HNC
    clear hy HQ2 HQ HNO
    go_upto_region 3 with (go_at_call 50; refine HRC.out.mono ?_; rintro r w3 ⟨rfl, hB3⟩; have HB3 := Lib.hid hB3; clear hB3)
    have hg3 : w3.drew.heap[g]? = some (.cells (exC e A c) 26 (0, 0)) := (HB3.out.block g (blk_lt HG2.out)).trans HG2.out
    have hr3 : w3.drew.heap[rb]? = some (.cells zerosE 26 (0, 0)) := (HB3.out.block rb (blk_lt HR.out)).trans HR.out
    have HBD : Hid (Below w.heap.size w w3.drew) := Lib.hid (below_drew (HB.out.trans (HB3.out.mono HB.out.size)))
    clear hz0 hz1 hz2 hz3 hz4 hz5 hz6 hz7 hz8
    have hg3' : w3.heap[g]? = some (.cells (exC e A c) 26 (0, 0)) := hg3
    obtain ⟨hz0, hz1, hz2, hz3, hz4, hz5, hz6, hz7, hz8⟩ := bkC9 hg3'
    obtain ⟨hw0, hw1, hw2, hw3, hw4, hw5, hw6, hw7, hw8⟩ := bkC9 hg3
    have HG3 := Lib.hid hg3; have HR3 := Lib.hid hr3
    clear hg3' hg3 hr3
    go_region_held3 (fun w' => w'.cell? ⟨g, 0, none⟩ = some (.int .i64 e.f0) ∧ w'.cell? ⟨g, 1, none⟩ = some (.int .i64 e.f1.f0) ∧ w'.cell? ⟨g, 2, none⟩ = some (.int .i64 e.f1.f1) ∧ w'.cell? ⟨g, 3, none⟩ = some (.string e.f1.f2) ∧ w'.cell? ⟨g, 4, none⟩ = some (.int .i64 e.f2) ∧ w'.cell? ⟨g, 5, none⟩ = some (.int .i64 e.f3) ∧ w'.cell? ⟨g, 6, none⟩ = some (.int .i64 e.f4) ∧ w'.cell? ⟨g, 7, none⟩ = some (.string e.f5) ∧ w'.cell? ⟨g, 8, none⟩ = some (.slice A e.f6.length c)) (go_keep) (first
      | (go_at_call 52; with_reducible refine (HTD.out _).mono ?_; rintro r w4 ⟨m, rfl, hTu, hB4⟩; have ha0 := pw_cell_below hB4 hw0; have ha1 := pw_cell_below hB4 hw1; have ha2 := pw_cell_below hB4 hw2; have ha3 := pw_cell_below hB4 hw3; have ha4 := pw_cell_below hB4 hw4; have ha5 := pw_cell_below hB4 hw5; have ha6 := pw_cell_below hB4 hw6; have ha7 := pw_cell_below hB4 hw7; have ha8 := pw_cell_below hB4 hw8; have hg4 := (hB4.block g (blk_lt HG3.out)).trans HG3.out; have hr4 := (hB4.block rb (blk_lt HR3.out)).trans HR3.out; have hBw4 := HBD.out.trans (hB4.mono HBD.out.size))
      | (go_at_call 51; have HX := HNC.out w4 m hBw4 hTu; with_reducible refine HX.mono ?_; rintro r w5 ⟨D, kk, rfl, hkk, hFF, hB5⟩; have hb0 := pw_cell_below hB5 ha0; have hb1 := pw_cell_below hB5 ha1; have hb2 := pw_cell_below hB5 ha2; have hb3 := pw_cell_below hB5 ha3; have hb4 := pw_cell_below hB5 ha4; have hb5 := pw_cell_below hB5 ha5; have hb6 := pw_cell_below hB5 ha6; have hb7 := pw_cell_below hB5 ha7; have hb8 := pw_cell_below hB5 ha8; have hr5 := (hB5.block rb (blk_lt hr4)).trans hr4; have hy0 : w5.cell? ⟨rb, 0, none⟩ = some (.int .i64 0) := (bkC hr5 0).trans rfl; have hf0 := bkF hr5 0; have hy1 : w5.cell? ⟨rb, 1, none⟩ = some (.int .i64 0) := (bkC hr5 1).trans rfl; have hf1 := bkF hr5 1; have hy2 : w5.cell? ⟨rb, 2, none⟩ = some (.int .i64 0) := (bkC hr5 2).trans rfl; have hf2 := bkF hr5 2; have hy3 : w5.cell? ⟨rb, 3, none⟩ = some (.string ⟨#[]⟩) := (bkC hr5 3).trans rfl; have hf3 := bkF hr5 3; have hy4 : w5.cell? ⟨rb, 4, none⟩ = some (.int .i64 0) := (bkC hr5 4).trans rfl; have hf4 := bkF hr5 4; have hy5 : w5.cell? ⟨rb, 5, none⟩ = some (.int .i64 0) := (bkC hr5 5).trans rfl; have hf5 := bkF hr5 5; have hy6 : w5.cell? ⟨rb, 6, none⟩ = some (.int .i64 0) := (bkC hr5 6).trans rfl; have hf6 := bkF hr5 6; have hy7 : w5.cell? ⟨rb, 7, none⟩ = some (.string ⟨#[]⟩) := (bkC hr5 7).trans rfl; have hf7 := bkF hr5 7; have hy8 : w5.cell? ⟨rb, 8, none⟩ = some (.slice none 0 0) := (bkC hr5 8).trans rfl; have hf8 := bkF hr5 8))
    have hB5w : Below w.heap.size w w5 := hBw4.trans (hB5.mono hBw4.size)
    have hrb5 : rb < w4.heap.size := blk_lt hr4
    have hsz4 : w.heap.size ≤ w4.heap.size := hBw4.size
    clear ha0 ha1 ha2 ha3 ha4 ha5 ha6 ha7 ha8 hb0 hb1 hb2 hb3 hb4 hb5 hb6 hb7 hb8 hw0 hw1 hw2 hw3 hw4 hw5 hw6 hw7 hw8 hz0 hz1 hz2 hz3 hz4 hz5 hz6 hz7 hz8
    go_wp2_with fail
    refine bodyPost_ret (results_ct (p := 2) (u := 3) rfl _ _ rb 26 (exC y D kk) (0, 0) _ rfl (ex_put0 hr5 y D kk) Tryz.underlying26 rfl (info_ex _ _ _)) rfl ?_
    refine ⟨D, kk, rfl, hkk, Kd.F_mono (Kd.F_step hFF (fun b hb hlt => ex_heap (show b ≠ rb by have : w4.heap.size ≤ b := hb; omega) y D kk)) (fun b hb => Nat.le_trans hsz4 hb), ex_below hB5w hrbw y D kk⟩
end Go.Proofs.YtoffpegppdmkdaaGreatDoor.E
namespace Go.Proofs.YtoffpegppdmkdaaGreatDoor.E
open Go.RowKit Go.Proofs.YtoffpegppdmkdaaGreatDoorW.PrintWords Go.Proofs.YtoffpegppdmkdaaGreatDoorW.PrintLast Go.Proofs.YtoffpegppdmkdaaGreatDoorW.PrintMore
open Go.Sort (Holds HoldsK putRow putRowK flatK size_flatK get_flatK mapBlock putCells grow setMany)
set_option linter.unusedVariables false
def cAux : Ex → List Ex → List Ex
  | _, [] => []
  | p, y :: l => if sameT y p = true then cAux y l else y :: cAux y l
def compF : List Ex → List Ex
  | [] => []
  | x :: l => x :: cAux x l
theorem cAux_snoc (y : Ex) : ∀ (l : List Ex) (p : Ex), cAux p (l ++ [y]) = cAux p l ++ (if sameT y ((p :: l).getLast (by simp)) = true then [] else [y])
  | [], p => by
    show cAux p [y] = [] ++ (if sameT y p = true then [] else [y])
    rw [List.nil_append]; show (if sameT y p = true then cAux y [] else y :: cAux y []) = _; rfl
  | z :: l, p => by
    have h := cAux_snoc y l z
    rw [List.cons_append, cAux, cAux, h, show (p :: z :: l).getLast (by simp) = (z :: l).getLast (by simp) from List.getLast_cons _]
    by_cases hs : sameT z p = true
    · rw [if_pos hs, if_pos hs]
    · rw [if_neg hs, if_neg hs]; rfl
theorem compF_snoc (xs : List Ex) (i : Nat) (h1 : 1 ≤ i) (h2 : i < xs.length) : compF (xs.take (i + 1)) = compF (xs.take i) ++ (if sameT xs[i] xs[i - 1] = true then [] else [xs[i]]) := by
  rw [List.take_succ_eq_append_getElem h2]
  match xs, h2 with
  | x :: l, h2 =>
    obtain ⟨j, rfl⟩ : ∃ j, i = j + 1 := ⟨i - 1, by omega⟩
    rw [List.take_succ_cons, List.cons_append, compF, compF, cAux_snoc, List.cons_append]
    congr 3
    have h3 : ∀ h, (x :: List.take j l).getLast h = (x :: l)[j]'(by simp at h2 ⊢; omega) := by
      intro h
      have hj : min j l.length = j := by simp at h2; omega
      have e : (x :: List.take j l) = List.take (j + 1) (x :: l) := rfl
      simp only [e]
      rw [List.getLast_eq_getElem, List.getElem_take]
      congr 1
      simp at h2 ⊢
      omega
    rw [h3]
    simp
theorem compF_one (x : Ex) : compF [x] = [x] := by simp [compF, cAux]
end Go.Proofs.YtoffpegppdmkdaaGreatDoor.E
namespace Go.Proofs.YtoffpegppdmkdaaGreatDoor.E
open Go.RowKit Go.Proofs.YtoffpegppdmkdaaGreatDoorW.PrintWords Go.Proofs.YtoffpegppdmkdaaGreatDoorW.PrintLast Go.Proofs.YtoffpegppdmkdaaGreatDoorW.PrintMore
set_option linter.unusedVariables false
set_option linter.unusedSimpArgs false
set_option maxHeartbeats 1000000 in
set_option maxRecDepth 100000 in
theorem same_ok (e d : Ex) (A D : Option Addr) (c k : Nat) (w : World) (hT : TabW w) (hRg : rngF e = true) (hRd : rngF d = true) (hC : Kd.C KX w A e.f6.length e.f6) (hc : e.f6.length ≤ c) (hD : Kd.C KX w D d.f6.length d.f6) (hd : d.f6.length ≤ k) :
    Calls Tryz.prog 73 #[.agg (exC e A c), .agg (exC d D k)] w fun r w' => r = .returned (.bool (sameT e d)) ∧ Below w.heap.size w w' := by
  have HT : Hid (∀ W, Below w.heap.size w W → Calls Tryz.prog 78 #[.agg (exC e A c)] W fun r w' => r = .returned (.tuple #[.string (textRes e).1, .int .i64 (textRes e).2]) ∧ Below W.heap.size W w') := Lib.hid (fun W hW => Text_ok e A c W (tab_at hT hW) hRg (Kd.C_below hC hW) hc)
  have HS : Hid (∀ W, Below w.heap.size w W → Calls Tryz.prog 78 #[.agg (exC d D k)] W fun r w' => r = .returned (.tuple #[.string (textRes d).1, .int .i64 (textRes d).2]) ∧ Below W.heap.size W w') := Lib.hid (fun W hW => Text_ok d D k W (tab_at hT hW) hRd (Kd.C_below hD hW) hd)
  have hs : sameT e d = (decide ((textRes e).2 = 0) && (decide ((textRes d).2 = 0) && (textRes e).1.toList == (textRes d).1.toList)) := rfl
  rw [hs]; clear hs
  generalize textRes e = te at HT ⊢
  generalize textRes d = td at HS ⊢
  obtain ⟨t1, q1⟩ := te
  obtain ⟨t2, q2⟩ := td
  simp only at HT HS ⊢
  clear hT hRg hRd hC hD
  unfold exC at HT HS ⊢
  go_enter Tryz.func73, Tryz.ntmps73
  go_upto_region 1 with (first | ((with_reducible refine gate_dst (N := 2) rfl ?_); refine box_event rfl (N := 2) rfl (cs := exC e A c) (t := 26) (by first | rfl | (go_simp; done) | (go_simp; rfl)) ?_; intro g hgg w1 hbg hBg;  have HG1 := Lib.hid hbg; have HB1 := Lib.hid hBg; clear hgg hbg hBg) | ((with_reducible refine gate_dst (N := 3) rfl ?_); refine box_event rfl (N := 3) rfl (cs := exC d D k) (t := 26) (by first | rfl | (go_simp; done) | (go_simp; rfl)) ?_; intro h hgg w2 hbh hBh;  have HG2 := Lib.hid hbh; have HB2 := Lib.hid hBh; clear hgg hbh hBh))
  have hg2 := (HB2.out.block g (blk_lt HG1.out)).trans HG1.out
  obtain ⟨hz0, hz1, hz2, hz3, hz4, hz5, hz6, hz7, hz8⟩ := bkC9 hg2
  have HBB : Hid (Below w.heap.size w w2) := Lib.hid (HB1.out.trans (HB2.out.mono HB1.out.size))
  clear hg2 HG1 HB1 HB2
  have HTg := Lib.hid (HT.out w2 HBB.out)
  clear HT
  go_upto_region 2 with (go_at_call 78; refine HTg.out.mono ?_; rintro r w3 ⟨rfl, hB3⟩; have HB3 := Lib.hid hB3; clear hB3)
  have hh3 := (HB3.out.block h (blk_lt HG2.out)).trans HG2.out
  obtain ⟨hy0, hy1, hy2, hy3, hy4, hy5, hy6, hy7, hy8⟩ := bkC9 hh3
  have HB4 : Hid (Below w.heap.size w w3) := Lib.hid (HBB.out.trans (HB3.out.mono HBB.out.size))
  clear hh3
  have HTh := Lib.hid (HS.out w3 HB4.out)
  clear HS
  go_upto_region 3 with (go_at_call 78; refine HTh.out.mono ?_; rintro r w4 ⟨rfl, hB4⟩; have HB5 := Lib.hid hB4; clear hB4)
  by_cases c1 : q1 = 0
  · by_cases c2 : q2 = 0
    · by_cases c3 : t1.toList = t2.toList
      · go_wp2_with fail
        go_ret
        exact ⟨by simp [c1, c2, c3], HB4.out.trans (HB5.out.mono HB4.out.size)⟩
      · go_wp2_with fail
        go_ret
        exact ⟨by simp [c1, c2, c3], HB4.out.trans (HB5.out.mono HB4.out.size)⟩
    · go_wp2_with fail
      go_ret
      exact ⟨by simp [c1, c2], HB4.out.trans (HB5.out.mono HB4.out.size)⟩
  · go_wp2_with fail
    go_ret
    exact ⟨by simp [c1], HB4.out.trans (HB5.out.mono HB4.out.size)⟩
theorem hcfC1 : ∀ (args : Array Value) (W : World), (callFunc 66 args).run Tryz.prog W = .ok (.enter 66 args) W := fun args W => by go_simp
theorem hcfC2 : ∀ (args : Array Value) (W : World), (callFunc 68 args).run Tryz.prog W = .ok (.enter 68 args) W := fun args W => by go_simp
set_option maxHeartbeats 1000000 in
set_option maxRecDepth 100000 in
theorem cond1_ok (e : Ex) (A : Option Addr) (c : Nat) (w : World) (hC : Kd.C KX w A e.f6.length e.f6) (hc : e.f6.length ≤ c) :
    Calls Tryz.prog 66 #[.agg (exC e A c)] w fun r w' => r = .returned (.bool (!rightB e)) ∧ Below w.heap.size w w' := by
  have HR : Hid (∀ W, Below w.heap.size w W → Calls Tryz.prog 50 #[.agg (exC e A c)] W fun r w' => r = .returned (.bool (rightB e)) ∧ Below W.heap.size W w') := Lib.hid (fun W hW => right_ok e A c W (Kd.C_below hC hW) hc)
  generalize rightB e = q at HR ⊢
  clear hC
  unfold exC at HR ⊢
  go_enter Tryz.func66, Tryz.ntmps66
  go_upto_region 1 with (first | ((with_reducible refine gate_dst (N := 1) rfl ?_); refine box_event rfl (N := 1) rfl (cs := exC e A c) (t := 26) (by first | rfl | (go_simp; done) | (go_simp; rfl)) ?_; intro g hgg w1 hbg hBg;  have HG1 := Lib.hid hbg; have HB1 := Lib.hid hBg; clear hgg hbg hBg))
  have hg1 := HG1.out
  obtain ⟨hz0, hz1, hz2, hz3, hz4, hz5, hz6, hz7, hz8⟩ := bkC9 hg1
  clear hg1
  have HT := Lib.hid (HR.out w1 HB1.out)
  clear HR
  go_wp2_with (go_at_call 50; refine HT.out.mono ?_; rintro r w3 ⟨rfl, hB3⟩; have HB3 := Lib.hid hB3; clear hB3)
  go_ret
  exact ⟨rfl, HB1.out.trans (HB3.out.mono HB1.out.size)⟩
theorem anyRight_ok (xs : List Ex) (A : Option Addr) (c : Nat) (w : World) (hC : Kd.C KX w A xs.length xs) (h63 : xs.length ≤ 9223372036854775807) :
    Calls Tryz.prog 65 #[.slice A xs.length c, .func (.func 66) #[] #[]] w fun r w' => r = .returned (.bool (!xs.all rightB)) ∧ Below w.heap.size w w' := by
  refine (contains_ok 66 #[] xs A c w w hC h63 hcfC1 (fun i W => (∀ j x, j < i → xs[j]? = some x → rightB x = true) ∧ Below w.heap.size w W) (fun W => xs.all rightB = false ∧ Below w.heap.size w W) (fun i W h => h.2) ?_ ⟨fun j x hj => absurd hj (Nat.not_lt_zero _), Below.refl _ _⟩).mono ?_
  · intro i e A8 c8 W he hi hc8 hC8
    refine (cond1_ok e A8 c8 W (Kd.C_below hC8 hi.2) hc8).mono ?_
    rintro r W' ⟨rfl, hB⟩
    have hB2 := hi.2.trans (hB.mono hi.2.size)
    cases hr : rightB e
    · refine .inr ⟨rfl, ?_, hB2⟩
      rw [List.all_eq_false]
      exact ⟨e, List.mem_of_getElem? he, by rw [hr]; decide⟩
    · refine .inl ⟨rfl, fun j x hj hx => ?_, hB2⟩
      rcases Nat.lt_or_ge j i with h | h
      · exact hi.1 j x h hx
      · obtain rfl : j = i := by omega
        rw [he] at hx; cases hx; exact hr
  · rintro r W' (⟨rfl, h, hB⟩ | ⟨rfl, h, hB⟩)
    · refine ⟨?_, hB⟩
      have : xs.all rightB = true := by
        rw [List.all_eq_true]
        intro x hx
        obtain ⟨j, hj, rfl⟩ := List.getElem_of_mem hx
        exact h j _ hj (List.getElem?_eq_getElem hj)
      rw [this]; rfl
    · exact ⟨by rw [h]; rfl, hB⟩
set_option maxHeartbeats 4000000 in
set_option maxRecDepth 100000 in
theorem cond2_ok (x : Ex) (h : NormalOk x) (hRt : Rt x) (hRg : rngF x = true) (mb m : Nat) (w : World) (hm : w.heap[mb]? = some (.cells #[.map (some m)] 99 (0, 0))) (hT : TabW w) (hTu : TurnsAt m w) :
    MakesAt 68 #[.pointer (some ⟨mb, 0, none⟩)] w normF x := by
  intro A c W hW hc hC
  have HM := Lib.hid ((hW.block mb (blk_lt hm)).trans hm)
  have HCC := Lib.hid hC
  have HCL : Hid (∀ W2, Below W.heap.size W W2 → Calls Tryz.prog 51 #[.agg (exC x A c), .map (some m)] W2 (NewE (normF x) W2)) := Lib.hid (fun W2 h2 => h A c W2 m (tab_at hT (hW.trans (h2.mono hW.size))) (hTu.later (hW.trans (h2.mono hW.size))) hRt hRg hc (Kd.C_below hC h2))
  obtain ⟨y, hy⟩ : ∃ y, normF x = y := ⟨_, rfl⟩
  rw [hy] at HCL ⊢
  clear h hRt hRg hT hTu hC hm hW hy
  unfold exC at HCL ⊢
  go_enter Tryz.func68, Tryz.ntmps68
  go_upto_region 1 with (first | ((with_reducible refine gate_dst (N := 2) rfl ?_); refine box_event rfl (N := 2) rfl (cs := exC x A c) (t := 26) (by first | rfl | (go_simp; done) | (go_simp; rfl)) ?_; intro g hgg w1 hbg hBg;  have HG := Lib.hid hbg; have HB1 := Lib.hid hBg; clear hgg hbg hBg) | ((with_reducible refine gate_dst (N := 3) rfl ?_); refine box_event rfl (N := 3) rfl (cs := zerosE) (t := 26) (by first | rfl | (go_simp; done) | (go_simp; rfl)) ?_; intro rb hgg w2 hbrb hBrb;  have hrb : w1.heap.size ≤ rb := (by omega); have HR := Lib.hid hbrb; have HB2 := Lib.hid hBrb; clear hgg hbrb hBrb))
  have HB : Hid (Below W.heap.size W w2) := Lib.hid (HB1.out.trans (HB2.out.mono HB1.out.size))
  have hg2 := (HB2.out.block g (blk_lt HG.out)).trans HG.out
  have hm2 := (HB.out.block mb (blk_lt HM.out)).trans HM.out
  obtain ⟨hz0, hz1, hz2, hz3, hz4, hz5, hz6, hz7, hz8⟩ := bkC9 hg2
  have hmc : w2.cell? ⟨mb, 0, none⟩ = some (.map (some m)) := (bkC hm2 0).trans rfl
  have HCL2 := Lib.hid (HCL.out w2 HB.out)
  have hr0 := HR.out
  go_wp2_with (go_at_call 51; refine HCL2.out.mono ?_; rintro r w3 ⟨D, kk, rfl, hkk, hFF, hB3⟩; have hr3 := (hB3.block rb (blk_lt hr0)).trans hr0; have HFF := Lib.hid hFF; have HB3 := Lib.hid hB3; have HR3 := Lib.hid hr3; clear hFF hB3; obtain ⟨hy0, hy1, hy2, hy3, hy4, hy5, hy6, hy7, hy8⟩ := bkC9 hr3; have hf0 := bkF hr3 0; have hf1 := bkF hr3 1; have hf2 := bkF hr3 2; have hf3 := bkF hr3 3; have hf4 := bkF hr3 4; have hf5 := bkF hr3 5; have hf6 := bkF hr3 6; have hf7 := bkF hr3 7; have hf8 := bkF hr3 8; clear hr3; unfold exC)
  refine bodyPost_ret (results_cell_row rfl _ _ rb 26 (exC y D kk) (0, 0) _ rfl (ex_put0 HR3.out y D kk) Tryz.underlying26 rfl (info_ex _ _ _)) rfl ?_
  have hrw : rb < w2.heap.size := blk_lt hr0
  have hB13 : Below W.heap.size W w3 := HB.out.trans (HB3.out.mono HB.out.size)
  refine ⟨D, kk, rfl, hkk, ?_, ex_below hB13 (by have := HB1.out.size; omega) y D kk⟩
  refine Kd.F_mono (Kd.F_step HFF.out (fun b hb hlt => ?_)) (fun b hb => Nat.le_trans HB.out.size hb)
  exact ex_heap (show b ≠ rb by omega) y D kk
end Go.Proofs.YtoffpegppdmkdaaGreatDoor.E
