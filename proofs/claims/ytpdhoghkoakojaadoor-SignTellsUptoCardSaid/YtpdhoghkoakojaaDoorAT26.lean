/- Contracts and plain lemmas of the functions that the law reaches, part 26. -/
import Derived.Test.YtpdhoghkoakojaaDoorAT3
import Derived.Test.YtpdhoghkoakojaaDoorAT16
import Derived.Test.YtpdhoghkoakojaaDoorAT25
namespace Go.Proofs.YtpdhoghkoakojaaDoor.E
open Go.RowKit Go.Proofs.YtpdhoghkoakojaaDoorW.PrintWords Go.Proofs.YtpdhoghkoakojaaDoorW.PrintLast Go.Proofs.YtpdhoghkoakojaaDoorW.PrintMore
attribute [local go_sem] max2_int min2_int max_two min_two max_three min_three max_four min_four   -- for this text's walks alone
set_option linter.unusedVariables false
set_option linter.unusedSimpArgs false
mutual
def q12_Conds.l0 : Nat → List (S26) → List (S26) → Int → Option ((List (S26)) × Bool)
 | 0, _, _, _ => none
 | k + 1, x0, x4, x5 => if x5 < (x0.length : Int) then (if 0 ≤ x5 then ((q12_Normal.f k ((rd_T26 x0 x5).f0) ((rd_T26 x0 x5).f1.f0) ((rd_T26 x0 x5).f1.f1) ((rd_T26 x0 x5).f1.f2) ((rd_T26 x0 x5).f2) ((rd_T26 x0 x5).f3) ((rd_T26 x0 x5).f4) ((rd_T26 x0 x5).f5) ((rd_T26 x0 x5).f6)).bind fun bt190 => (if bt190.2.2.2.2.2.2.2.2.2 = true then ((q08_Print.f bt190.1 bt190.2.1 bt190.2.2.1 bt190.2.2.2.1 bt190.2.2.2.2.1 bt190.2.2.2.2.2.1 bt190.2.2.2.2.2.2.1 bt190.2.2.2.2.2.2.2.1 bt190.2.2.2.2.2.2.2.2.1).bind fun t203 => (q12_Conds.l1 k x0 x4 x5 t203 0 bt190.1 bt190.2.1 bt190.2.2.1 bt190.2.2.2.1 bt190.2.2.2.2.1 bt190.2.2.2.2.2.1 bt190.2.2.2.2.2.2.1 bt190.2.2.2.2.2.2.2.1 bt190.2.2.2.2.2.2.2.2.1)) else (some (([] : List (S26)), false)))) else (none)) else (some (x4, true))
def q12_Conds.l1 : Nat → List (S26) → List (S26) → Int → ByteArray → Int → Int → Int → Int → ByteArray → Int → Int → Int → ByteArray → List (S26) → Option ((List (S26)) × Bool)
 | 0, _, _, _, _, _, _, _, _, _, _, _, _, _, _ => none
 | k + 1, x0, x4, x5, x8, x9, x203000, x203001, x203002, x203003, x203004, x203005, x203006, x203007, x203008 => if x9 < (x4.length : Int) then (if 0 ≤ x9 then ((q08_Print.f ((rd_T26 x4 x9).f0) ((rd_T26 x4 x9).f1.f0) ((rd_T26 x4 x9).f1.f1) ((rd_T26 x4 x9).f1.f2) ((rd_T26 x4 x9).f2) ((rd_T26 x4 x9).f3) ((rd_T26 x4 x9).f4) ((rd_T26 x4 x9).f5) ((rd_T26 x4 x9).f6)).bind fun t205 => (if (Op.bytesLess t205.toList x8.toList) = true then (q12_Conds.l1 k x0 x4 x5 x8 (wrap64 (x9 + 1)) x203000 x203001 x203002 x203003 x203004 x203005 x203006 x203007 x203008) else ((q08_Print.f ((rd_T26 x4 x9).f0) ((rd_T26 x4 x9).f1.f0) ((rd_T26 x4 x9).f1.f1) ((rd_T26 x4 x9).f1.f2) ((rd_T26 x4 x9).f2) ((rd_T26 x4 x9).f3) ((rd_T26 x4 x9).f4) ((rd_T26 x4 x9).f5) ((rd_T26 x4 x9).f6)).bind fun t207 => (if t207.toList = x8.toList then (q12_Conds.l0 k x0 x4 (wrap64 (x5 + 1))) else (if x9 ≤ (x4.length : Int) then ((some (x4.take (x9 : Int).toNat : List (S26))).bind fun y208 => (if ([] : List (S26)).length + y208.length < 1353245080339 then ((some (([] : List (S26)) ++ y208 : List (S26))).bind fun y213 => (if y213.length < 1353245080339 then ((some (y213 ++ [(⟨x203000, (⟨x203001, x203002, x203003⟩ : S23), x203004, x203005, x203006, x203007, x203008⟩ : S26)] : List (S26))).bind fun y216 => ((some (x4.drop (x9 : Int).toNat : List (S26))).bind fun y219 => (if y216.length + y219.length < 1353245080339 then (q12_Conds.l0 k x0 (y216 ++ y219) (wrap64 (x5 + 1))) else (none)))) else (none))) else (none))) else (none)))))) else (none)) else (if 0 ≤ x9 then (if x9 ≤ (x4.length : Int) then ((some (x4.take (x9 : Int).toNat : List (S26))).bind fun y227 => (if ([] : List (S26)).length + y227.length < 1353245080339 then ((some (([] : List (S26)) ++ y227 : List (S26))).bind fun y232 => (if y232.length < 1353245080339 then ((some (y232 ++ [(⟨x203000, (⟨x203001, x203002, x203003⟩ : S23), x203004, x203005, x203006, x203007, x203008⟩ : S26)] : List (S26))).bind fun y235 => ((some (x4.drop (x9 : Int).toNat : List (S26))).bind fun y238 => (if y235.length + y238.length < 1353245080339 then (q12_Conds.l0 k x0 (y235 ++ y238) (wrap64 (x5 + 1))) else (none)))) else (none))) else (none))) else (none)) else (none))
end
def q12_Conds.f (k : Nat) (l0 : List (S26)) : Option ((List (S26)) × Bool) := q12_Conds.l0 k l0 ([] : List (S26)) 0
set_option maxHeartbeats 8000000 in
set_option maxRecDepth 100000 in
theorem q12_Conds.calls (k : Nat) (A0 : Option Addr) (c0 : Nat) (l0 : List (S26)) (r1 : List (S26)) (r2 : Bool) (w : World) (hr0 : Kd.C k26 w A0 l0.length l0) (hc0 : l0.length ≤ c0) (h : q12_Conds.f k l0 = some (r1, r2)) :
  Calls Tryd.prog 13 #[.slice A0 l0.length c0] w fun e w' => ∃ v0_ : Value, e = .returned (.tuple #[v0_, .bool r2]) ∧ Kd.N k26 26 w' w.heap.size (fun k_ => (w.heap.size ≤ k_)) v0_ r1 ∧ Below w.heap.size w w' := by
 have hu26 := Tryd.underlying26
 have HR0 := Asd.mk hr0
 have HC0 := Asd.mk hc0
 clear hr0 hc0
 have HB := Asd.mk (Below.refl w.heap.size w)
 have H : (q12_Conds.l0 k l0 ([] : List (S26)) 0) = some (r1, r2) := h
 clear h
 have H' := Asd.mk H
 clear H
 go_enter Tryd.func13, Tryd.ntmps13
 go_wp2
 go_loopg [4, 5] k (fun kq v4 v5 w' => ∃ (x4_1 : List (S26)) (x5_1 : Int), v5 = .int .i64 x5_1 ∧ Asd (q12_Conds.l0 kq l0 x4_1 x5_1 = some (r1, r2)) ∧ Asd (kq ≤ k) ∧ Asd (Kd.N k26 26 w' w.heap.size (fun k_ => (w.heap.size ≤ k_)) v4 x4_1) ∧ Asd (Below w.heap.size w w'))
 case atStart => exact ⟨(([] : List (S26))), (0), (by first | rfl | (simp; done) | (simp [*]; done)), H', ⟨Nat.le_refl _⟩, ⟨by first | exact Kd.R_nil _ _ _ _ _ | exact Kd.N_nil _ _ _ _ _ | exact Kd.V_nil _ _ _ _ _ | exact Kd.Q_nil _ _ _ _ _ | exact Kd.S_nil _ _ _ _ _⟩, ⟨by repeat (first | (with_reducible first | exact HB.out | apply blA | apply pbN | apply blD) | exact HB.out)⟩⟩
 case round =>
  clear H'
  try clear c1
  obtain ⟨x4_1, x5_1, rfl, HA, HK1, HO_4, HB⟩ := hrel
  cases gk with
  | zero => exact absurd HA.out (by simp [q12_Conds.l0])
  | succ k1 =>
   have H := HA.out
   clear HA
   simp only [q12_Conds.l0] at H
   by_cases c2 : x5_1 < (l0.length : Int)
   ·rw [if_pos c2] at H
    have c2b0 : decide (x5_1 < (l0.length : Int)) = true := decide_eq_true c2
    clear c2
    by_cases c3 : 0 ≤ x5_1
    ·rw [if_pos c3] at H
     have c3b0 : decide (0 ≤ x5_1) = true := decide_eq_true c3
     clear c3
     replace H := Option.bind_eq_some_iff.mp H
     obtain ⟨⟨t190, t191, t192, t193, t194, t195, t196, t197, t198, t201⟩, A40, H⟩ := H
     replace H : (if t201 = true then ((q08_Print.f t190 t191 t192 t193 t194 t195 t196 t197 t198).bind fun t203 => (q12_Conds.l1 k1 l0 x4_1 x5_1 t203 0 t190 t191 t192 t193 t194 t195 t196 t197 t198)) else (some (([] : List (S26)), false))) = some (r1, r2) := H
     have A4 := Asd.mk A40
     clear A40
     by_cases c5 : t201 = true
     ·subst c5
      have H1 : ((q08_Print.f t190 t191 t192 t193 t194 t195 t196 t197 t198).bind fun t203 => (q12_Conds.l1 k1 l0 x4_1 x5_1 t203 0 t190 t191 t192 t193 t194 t195 t196 t197 t198)) = some (r1, r2) := by rw [if_pos rfl] at H; exact H
      clear H
      have H := H1
      clear H1
      replace H := Option.bind_eq_some_iff.mp H
      obtain ⟨t203, A60, H⟩ := H
      replace H : (q12_Conds.l1 k1 l0 x4_1 x5_1 t203 0 t190 t191 t192 t193 t194 t195 t196 t197 t198) = some (r1, r2) := H
      have A6 := Asd.mk A60
      clear A60
      have H' := Asd.mk H
      clear H
      have p189 : 0 ≤ (x5_1 : Int) := of_decide_eq_true (by first | (with_reducible assumption) | assumption)
      have q189 : x5_1 < (l0.length : Int) := of_decide_eq_true (by first | (with_reducible assumption) | assumption)
      obtain ⟨ad189, A189_8, c189_8, e189, hx189_0, hx189_1, hx189_2, hx189_3, hx189_4, hx189_5, hx189_6, hx189_7, hx189_8, hl189_8, hi189_8⟩ := at_T26 HR0.out x5_1 p189 q189
      cases e189
      replace hx189_0 := (HB.out.cell (World.block_lt_of_cell? w _ hx189_0)).trans hx189_0
      replace hx189_1 := (HB.out.cell (World.block_lt_of_cell? w _ hx189_1)).trans hx189_1
      replace hx189_2 := (HB.out.cell (World.block_lt_of_cell? w _ hx189_2)).trans hx189_2
      replace hx189_3 := (HB.out.cell (World.block_lt_of_cell? w _ hx189_3)).trans hx189_3
      replace hx189_4 := (HB.out.cell (World.block_lt_of_cell? w _ hx189_4)).trans hx189_4
      replace hx189_5 := (HB.out.cell (World.block_lt_of_cell? w _ hx189_5)).trans hx189_5
      replace hx189_6 := (HB.out.cell (World.block_lt_of_cell? w _ hx189_6)).trans hx189_6
      replace hx189_7 := (HB.out.cell (World.block_lt_of_cell? w _ hx189_7)).trans hx189_7
      replace hx189_8 := (HB.out.cell (World.block_lt_of_cell? w _ hx189_8)).trans hx189_8
      have HR189_8 := Asd.mk hi189_8
      have HC189_8 := Asd.mk hl189_8
      clear hi189_8 hl189_8
      replace p189 := eq_true p189
      replace q189 := eq_true q189
      go_wp2_with (first | ((with_reducible refine gate_callee (f := 11) rfl ?_); refine goesL_ (some 22) rfl rfl Tryd.func11 (by kernel_rfl) rfl #[.agg #[.int .i64 ((rd_T26 l0 x5_1).f0), .int .i64 ((rd_T26 l0 x5_1).f1.f0), .int .i64 ((rd_T26 l0 x5_1).f1.f1), .string ((rd_T26 l0 x5_1).f1.f2), .int .i64 ((rd_T26 l0 x5_1).f2), .int .i64 ((rd_T26 l0 x5_1).f3), .int .i64 ((rd_T26 l0 x5_1).f4), .string ((rd_T26 l0 x5_1).f5), .slice A189_8 ((rd_T26 l0 x5_1).f6).length c189_8]] rfl (by (try simp only [List.map_toArray, List.map_cons, List.map_nil]); first | done | rfl | (simp only [List.length_drop, List.length_take]; rfl)) ?_; (with_reducible refine (q12_Normal.calls k1 ((rd_T26 l0 x5_1).f0) ((rd_T26 l0 x5_1).f1.f0) ((rd_T26 l0 x5_1).f1.f1) ((rd_T26 l0 x5_1).f1.f2) ((rd_T26 l0 x5_1).f2) ((rd_T26 l0 x5_1).f3) ((rd_T26 l0 x5_1).f4) ((rd_T26 l0 x5_1).f5) _ _ ((rd_T26 l0 x5_1).f6) t190 t191 t192 t193 t194 t195 t196 t197 t198 true _ ?side1 ?side2 A4.out).mono ?_); (case side1 => repeat (first | exact (Kd.C_below HR189_8.out HB.out) | (with_reducible refine Kd.C_alloc ?_ _) | (with_reducible refine Kd.C_drewN ?_ _) | (with_reducible refine Kd.C_drew ?_))); (case side2 => exact HC189_8.out); rintro e w7 ⟨v199, rfl, ho0, hb⟩; refine ⟨_, rfl, ?_⟩; have n0_ := Asd.mk (Kd.N_elder' (by (with_reducible repeat (first | apply Kd.N_alloc | apply Kd.N_drewN | apply Kd.N_drew)); exact HO_4.out) (Kd.N_base ho0) hb); have n1_ := Asd.mk (Kd.N_lower (Kd.N_mono (ok' := fun k_ => (w.heap.size ≤ k_) ∧ some k_ ≠ (u4 : Value).ownBlock) ho0 (fun k_ hk_ => ⟨(Nat.le_trans (below_size (by repeat (first | (with_reducible first | exact HB.out | apply blA | apply pbN | apply blD) | exact HB.out))) hk_), (Kd.fresh' (Kd.N_lt (by (with_reducible repeat (first | apply Kd.N_alloc | apply Kd.N_drewN | apply Kd.N_drew)); exact HO_4.out)) k_ hk_)⟩)) (below_size (by repeat (first | (with_reducible first | exact HB.out | apply blA | apply pbN | apply blD) | exact HB.out)))); have n2_ := Asd.mk (below_step (by repeat (first | (with_reducible first | exact HB.out | apply blA | apply pbN | apply blD) | exact HB.out)) hb); clear HO_4; clear HB; have HO_4 := n0_; have HO200 := n1_; have HB := n2_; clear n0_ n1_ n2_; (try clear hb); (try clear hb2); (try clear hk); (try clear hi); (try clear ho0)) | ((with_reducible refine gate_dst (N := 6) rfl ?_); refine box_event rfl (N := 6) rfl (cs := #[.int .i64 0, .int .i64 0, .int .i64 0, .string (⟨#[]⟩ : ByteArray), .int .i64 0, .int .i64 0, .int .i64 0, .string (⟨#[]⟩ : ByteArray), .slice none 0 0]) (t := 26) (by first | (go_simp; done) | (go_simp; rfl)) ?_; intro gb202 hg w8 hbox hb; have n0_ := Asd.mk (Kd.N_below (Kd.N_elderB (by (with_reducible repeat (first | apply Kd.N_alloc | apply Kd.N_drewN | apply Kd.N_drew)); exact HO_4.out) gb202 (Nat.le_of_eq hg.symm)) hb); have n1_ := Asd.mk (Kd.N_below (Kd.N_elderB (by (with_reducible repeat (first | apply Kd.N_alloc | apply Kd.N_drewN | apply Kd.N_drew)); exact HO200.out) gb202 (Nat.le_of_eq hg.symm)) hb); have n2_ := Asd.mk (below_step (by repeat (first | (with_reducible first | exact HB.out | apply blA | apply pbN | apply blD) | exact HB.out)) hb); have n3_ := Asd.mk (hbox); have n4_ := Asd.mk ((by rw [hg]; exact (below_size (by repeat (first | (with_reducible first | exact HB.out | apply blA | apply pbN | apply blD) | exact HB.out))) : w.heap.size ≤ gb202)); have n5_ := Asd.mk ((by rw [hg]; exact (below_size (by repeat (first | (with_reducible first | exact HB.out | apply blA | apply pbN | apply blD) | exact HB.out))) : w.heap.size ≤ gb202)); clear HO_4; clear HO200; clear HB; have HO_4 := n0_; have HO200 := n1_; have HB := n2_; have BK202 := n3_; have GW202 := n4_; have GE202 := n5_; clear n0_ n1_ n2_ n3_ n4_ n5_; clear hb hbox hg; obtain ⟨hcz9_0, hcz9_1, hcz9_2, hcz9_3, hcz9_4, hcz9_5, hcz9_6, hcz9_7, hcz9_8⟩ := bkC9 BK202.out; obtain ⟨hfz9_0, hfz9_1, hfz9_2, hfz9_3, hfz9_4, hfz9_5, hfz9_6, hfz9_7, hfz9_8⟩ := bkF9 BK202.out; obtain ⟨Ao10, co10, eo10⟩ := Kd.N_slice HO200.out; subst eo10) | ((with_reducible refine gate_callee (f := 9) rfl ?_); refine goesL_ (some 28) rfl rfl Tryd.func9 (by kernel_rfl) rfl #[.agg #[.int .i64 t190, .int .i64 t191, .int .i64 t192, .string t193, .int .i64 t194, .int .i64 t195, .int .i64 t196, .string t197, .slice Ao10 t198.length co10]] rfl (by (try simp only [List.map_toArray, List.map_cons, List.map_nil]); first | done | rfl | (simp only [List.length_drop, List.length_take]; rfl)) ?_; (with_reducible refine (q08_Print.calls t190 t191 t192 t193 t194 t195 t196 t197 _ _ t198 t203 _ ?side1 ?side2 A6.out).mono ?_); (case side1 => refine (Kd.N_reads' (e := 26) (base := w.heap.size) (ok := fun k_ => (((w.heap.size ≤ k_) ∧ some k_ ≠ (u4 : Value).ownBlock) ∧ k_ ≠ gb202)) (n := t198.length) (c := co10) ?_).2.2; exact (by (with_reducible repeat (first | apply Kd.N_alloc | apply Kd.N_drewN | apply Kd.N_drew)); exact (Kd.N_mono (Kd.N_far (p := ⟨gb202, 8, none⟩) (Kd.N_far (p := ⟨gb202, 7, none⟩) (Kd.N_far (p := ⟨gb202, 6, none⟩) (Kd.N_far (p := ⟨gb202, 5, none⟩) (Kd.N_far (p := ⟨gb202, 4, none⟩) (Kd.N_far (p := ⟨gb202, 3, none⟩) (Kd.N_far (p := ⟨gb202, 2, none⟩) (Kd.N_far (p := ⟨gb202, 1, none⟩) (Kd.N_far (p := ⟨gb202, 0, none⟩) (Kd.N_mono HO200.out (fun k_ hk => (⟨hk, hk.2⟩ : _ ∧ k_ ≠ gb202))) (fun _ hk => hk.2) (.int .i64 t190)) (fun _ hk => hk.2) (.int .i64 t191)) (fun _ hk => hk.2) (.int .i64 t192)) (fun _ hk => hk.2) (.string t193)) (fun _ hk => hk.2) (.int .i64 t194)) (fun _ hk => hk.2) (.int .i64 t195)) (fun _ hk => hk.2) (.int .i64 t196)) (fun _ hk => hk.2) (.string t197)) (fun _ hk => hk.2) (.slice Ao10 t198.length co10)) (fun _ h_ => h_.1)))); (case side2 => exact (Kd.N_reads' HO200.out).2.1); rintro e w11 ⟨rfl, hb⟩; refine ⟨_, rfl, ?_⟩; have n0_ := Asd.mk (Kd.N_below (by (with_reducible repeat (first | apply Kd.N_alloc | apply Kd.N_drewN | apply Kd.N_drew)); exact (Kd.N_mono (Kd.N_far (p := ⟨gb202, 8, none⟩) (Kd.N_far (p := ⟨gb202, 7, none⟩) (Kd.N_far (p := ⟨gb202, 6, none⟩) (Kd.N_far (p := ⟨gb202, 5, none⟩) (Kd.N_far (p := ⟨gb202, 4, none⟩) (Kd.N_far (p := ⟨gb202, 3, none⟩) (Kd.N_far (p := ⟨gb202, 2, none⟩) (Kd.N_far (p := ⟨gb202, 1, none⟩) (Kd.N_far (p := ⟨gb202, 0, none⟩) (Kd.N_mono HO_4.out (fun k_ hk => (⟨hk, hk.2⟩ : _ ∧ k_ ≠ gb202))) (fun _ hk => hk.2) (.int .i64 t190)) (fun _ hk => hk.2) (.int .i64 t191)) (fun _ hk => hk.2) (.int .i64 t192)) (fun _ hk => hk.2) (.string t193)) (fun _ hk => hk.2) (.int .i64 t194)) (fun _ hk => hk.2) (.int .i64 t195)) (fun _ hk => hk.2) (.int .i64 t196)) (fun _ hk => hk.2) (.string t197)) (fun _ hk => hk.2) (.slice Ao10 t198.length co10)) (fun _ h_ => h_.1))) hb); have n1_ := Asd.mk (Kd.N_below (by (with_reducible repeat (first | apply Kd.N_alloc | apply Kd.N_drewN | apply Kd.N_drew)); exact (Kd.N_mono (Kd.N_far (p := ⟨gb202, 8, none⟩) (Kd.N_far (p := ⟨gb202, 7, none⟩) (Kd.N_far (p := ⟨gb202, 6, none⟩) (Kd.N_far (p := ⟨gb202, 5, none⟩) (Kd.N_far (p := ⟨gb202, 4, none⟩) (Kd.N_far (p := ⟨gb202, 3, none⟩) (Kd.N_far (p := ⟨gb202, 2, none⟩) (Kd.N_far (p := ⟨gb202, 1, none⟩) (Kd.N_far (p := ⟨gb202, 0, none⟩) (Kd.N_mono HO200.out (fun k_ hk => (⟨hk, hk.2⟩ : _ ∧ k_ ≠ gb202))) (fun _ hk => hk.2) (.int .i64 t190)) (fun _ hk => hk.2) (.int .i64 t191)) (fun _ hk => hk.2) (.int .i64 t192)) (fun _ hk => hk.2) (.string t193)) (fun _ hk => hk.2) (.int .i64 t194)) (fun _ hk => hk.2) (.int .i64 t195)) (fun _ hk => hk.2) (.int .i64 t196)) (fun _ hk => hk.2) (.string t197)) (fun _ hk => hk.2) (.slice Ao10 t198.length co10)) (fun _ h_ => h_.1))) hb); have n2_ := Asd.mk (blk_below (g := gb202) (o := .cells #[.int .i64 t190, .int .i64 t191, .int .i64 t192, .string t193, .int .i64 t194, .int .i64 t195, .int .i64 t196, .string t197, .slice Ao10 t198.length co10] 26 (0, 0)) (by (with_reducible repeat (first | refine bkN ?_ _ | refine bkD ?_ | refine bkA ?_ _)); refine blk_put (cs := #[.int .i64 t190, .int .i64 t191, .int .i64 t192, .string t193, .int .i64 t194, .int .i64 t195, .int .i64 t196, .string t197, .slice none 0 0]) ?_ 8 _ rfl; (with_reducible repeat (first | refine bkN ?_ _ | refine bkD ?_ | refine bkA ?_ _)); refine blk_put (cs := #[.int .i64 t190, .int .i64 t191, .int .i64 t192, .string t193, .int .i64 t194, .int .i64 t195, .int .i64 t196, .string (⟨#[]⟩ : ByteArray), .slice none 0 0]) ?_ 7 _ rfl; (with_reducible repeat (first | refine bkN ?_ _ | refine bkD ?_ | refine bkA ?_ _)); refine blk_put (cs := #[.int .i64 t190, .int .i64 t191, .int .i64 t192, .string t193, .int .i64 t194, .int .i64 t195, .int .i64 0, .string (⟨#[]⟩ : ByteArray), .slice none 0 0]) ?_ 6 _ rfl; (with_reducible repeat (first | refine bkN ?_ _ | refine bkD ?_ | refine bkA ?_ _)); refine blk_put (cs := #[.int .i64 t190, .int .i64 t191, .int .i64 t192, .string t193, .int .i64 t194, .int .i64 0, .int .i64 0, .string (⟨#[]⟩ : ByteArray), .slice none 0 0]) ?_ 5 _ rfl; (with_reducible repeat (first | refine bkN ?_ _ | refine bkD ?_ | refine bkA ?_ _)); refine blk_put (cs := #[.int .i64 t190, .int .i64 t191, .int .i64 t192, .string t193, .int .i64 0, .int .i64 0, .int .i64 0, .string (⟨#[]⟩ : ByteArray), .slice none 0 0]) ?_ 4 _ rfl; (with_reducible repeat (first | refine bkN ?_ _ | refine bkD ?_ | refine bkA ?_ _)); refine blk_put (cs := #[.int .i64 t190, .int .i64 t191, .int .i64 t192, .string (⟨#[]⟩ : ByteArray), .int .i64 0, .int .i64 0, .int .i64 0, .string (⟨#[]⟩ : ByteArray), .slice none 0 0]) ?_ 3 _ rfl; (with_reducible repeat (first | refine bkN ?_ _ | refine bkD ?_ | refine bkA ?_ _)); refine blk_put (cs := #[.int .i64 t190, .int .i64 t191, .int .i64 0, .string (⟨#[]⟩ : ByteArray), .int .i64 0, .int .i64 0, .int .i64 0, .string (⟨#[]⟩ : ByteArray), .slice none 0 0]) ?_ 2 _ rfl; (with_reducible repeat (first | refine bkN ?_ _ | refine bkD ?_ | refine bkA ?_ _)); refine blk_put (cs := #[.int .i64 t190, .int .i64 0, .int .i64 0, .string (⟨#[]⟩ : ByteArray), .int .i64 0, .int .i64 0, .int .i64 0, .string (⟨#[]⟩ : ByteArray), .slice none 0 0]) ?_ 1 _ rfl; (with_reducible repeat (first | refine bkN ?_ _ | refine bkD ?_ | refine bkA ?_ _)); refine blk_put (cs := #[.int .i64 0, .int .i64 0, .int .i64 0, .string (⟨#[]⟩ : ByteArray), .int .i64 0, .int .i64 0, .int .i64 0, .string (⟨#[]⟩ : ByteArray), .slice none 0 0]) ?_ 0 _ rfl; (with_reducible repeat (first | refine bkN ?_ _ | refine bkD ?_ | refine bkA ?_ _)); exact BK202.out) hb); have n3_ := Asd.mk (below_step (by repeat (first | (with_reducible first | exact HB.out | apply blA | apply pbN | apply blD | refine blS ?_ GE202.out) | exact HB.out)) hb); clear HO_4; clear HO200; clear BK202; clear HB; have HO_4 := n0_; have HO200 := n1_; have BK202 := n2_; have HB := n3_; clear n0_ n1_ n2_ n3_; (try clear hb); (try clear hb2); (try clear hk); (try clear hi)))
      go_loopg [9] k1 (fun kq v9 w' => ∃ (x9_2 : Int), v9 = .int .i64 x9_2 ∧ Asd (q12_Conds.l1 kq l0 x4_1 x5_1 t203 x9_2 t190 t191 t192 t193 t194 t195 t196 t197 t198 = some (r1, r2)) ∧ Asd (kq ≤ k1) ∧ Asd (Kd.N k26 26 w' w.heap.size (fun k_ => (w.heap.size ≤ k_) ∧ some k_ ≠ ((.slice Ao10 t198.length co10) : Value).ownBlock ∧ k_ ≠ gb202) u4 x4_1) ∧ Asd (Kd.N k26 26 w' w.heap.size (fun k_ => (w.heap.size ≤ k_) ∧ some k_ ≠ (u4 : Value).ownBlock ∧ k_ ≠ gb202) (.slice Ao10 t198.length co10) t198) ∧ Asd (w'.heap[gb202]? = some (.cells #[.int .i64 t190, .int .i64 t191, .int .i64 t192, .string t193, .int .i64 t194, .int .i64 t195, .int .i64 t196, .string t197, (.slice Ao10 t198.length co10)] 26 (0, 0))) ∧ Asd (Below w.heap.size w w'))
      case atStart => exact ⟨(0), (by first | rfl | (simp; done) | (simp [*]; done)), H', ⟨Nat.le_refl _⟩, ⟨by (with_reducible repeat (first | apply Kd.N_alloc | apply Kd.N_drewN | apply Kd.N_drew)); exact Kd.N_mono HO_4.out (fun _ hk => ⟨hk.1.1, ⟨hk.1.2, hk.2⟩⟩)⟩, ⟨by (with_reducible repeat (first | apply Kd.N_alloc | apply Kd.N_drewN | apply Kd.N_drew)); exact Kd.N_mono HO200.out (fun _ hk => ⟨hk.1.1, ⟨hk.1.2, hk.2⟩⟩)⟩, ⟨by (with_reducible repeat (first | refine bkN ?_ _ | refine bkD ?_ | refine bkA ?_ _)); exact BK202.out⟩, ⟨by repeat (first | (with_reducible first | exact HB.out | apply blA | apply pbN | apply blD | refine blS ?_ GE202.out) | exact HB.out)⟩⟩
      case round =>
       clear H'
       try clear c1
       try clear p1
       try clear q1
       try clear hx1
       try clear c2
       try clear c2b0
       try clear p2
       try clear c3
       try clear c3b0
       try clear c5
       try clear c9
       try clear c11
       try clear hcz9_0
       try clear hcz9_1
       try clear hcz9_2
       try clear hcz9_3
       try clear hcz9_4
       try clear hcz9_5
       try clear hcz9_6
       try clear hcz9_7
       try clear hcz9_8
       try clear hfz9_0
       try clear hfz9_1
       try clear hfz9_2
       try clear hfz9_3
       try clear hfz9_4
       try clear hfz9_5
       try clear hfz9_6
       try clear hfz9_7
       try clear hfz9_8
       try clear hx189_0
       try clear hx189_1
       try clear hx189_2
       try clear hx189_3
       try clear hx189_4
       try clear hx189_5
       try clear hx189_6
       try clear hx189_7
       try clear hx189_8
       try clear p189
       try clear q189
       obtain ⟨x9_2, rfl, HA, HK2, HO_4, HO_203008, BK202, HB⟩ := hrel
       cases gk with
       | zero => exact absurd HA.out (by simp [q12_Conds.l1])
       | succ k2 =>
        have H := HA.out
        clear HA
        simp only [q12_Conds.l1] at H
        by_cases c12 : x9_2 < (x4_1.length : Int)
        ·rw [if_pos c12] at H
         have c12b0 : decide (x9_2 < (x4_1.length : Int)) = true := decide_eq_true c12
         clear c12
         by_cases c13 : 0 ≤ x9_2
         ·rw [if_pos c13] at H
          have c13b0 : decide (0 ≤ x9_2) = true := decide_eq_true c13
          clear c13
          replace H := Option.bind_eq_some_iff.mp H
          obtain ⟨t205, A140, H⟩ := H
          replace H : (if (Op.bytesLess t205.toList t203.toList) = true then (q12_Conds.l1 k2 l0 x4_1 x5_1 t203 (wrap64 (x9_2 + 1)) t190 t191 t192 t193 t194 t195 t196 t197 t198) else ((q08_Print.f ((rd_T26 x4_1 x9_2).f0) ((rd_T26 x4_1 x9_2).f1.f0) ((rd_T26 x4_1 x9_2).f1.f1) ((rd_T26 x4_1 x9_2).f1.f2) ((rd_T26 x4_1 x9_2).f2) ((rd_T26 x4_1 x9_2).f3) ((rd_T26 x4_1 x9_2).f4) ((rd_T26 x4_1 x9_2).f5) ((rd_T26 x4_1 x9_2).f6)).bind fun t207 => (if t207.toList = t203.toList then (q12_Conds.l0 k2 l0 x4_1 (wrap64 (x5_1 + 1))) else (if x9_2 ≤ (x4_1.length : Int) then ((some (x4_1.take (x9_2 : Int).toNat : List (S26))).bind fun y208 => (if ([] : List (S26)).length + y208.length < 1353245080339 then ((some (([] : List (S26)) ++ y208 : List (S26))).bind fun y213 => (if y213.length < 1353245080339 then ((some (y213 ++ [(⟨t190, (⟨t191, t192, t193⟩ : S23), t194, t195, t196, t197, t198⟩ : S26)] : List (S26))).bind fun y216 => ((some (x4_1.drop (x9_2 : Int).toNat : List (S26))).bind fun y219 => (if y216.length + y219.length < 1353245080339 then (q12_Conds.l0 k2 l0 (y216 ++ y219) (wrap64 (x5_1 + 1))) else (none)))) else (none))) else (none))) else (none))))) = some (r1, r2) := H
          have A14 := Asd.mk A140
          clear A140
          by_cases c15 : (Op.bytesLess t205.toList t203.toList) = true
          ·rw [if_pos c15] at H
           have c15b0 : (Op.bytesLess t205.toList t203.toList) = true := c15
           clear c15
           have H' := Asd.mk H
           clear H
           obtain ⟨Ao16, co16, eo16⟩ := Kd.N_slice HO_4.out
           subst eo16
           have p204 : 0 ≤ (x9_2 : Int) := of_decide_eq_true (by first | (with_reducible assumption) | assumption)
           have q204 : x9_2 < (x4_1.length : Int) := of_decide_eq_true (by first | (with_reducible assumption) | assumption)
           obtain ⟨ad204, A204_8, c204_8, e204, hx204_0, hx204_1, hx204_2, hx204_3, hx204_4, hx204_5, hx204_6, hx204_7, hx204_8, hl204_8, hi204_8⟩ := at_T26 (Kd.N_reads' HO_4.out).2.2 x9_2 p204 q204
           cases e204
           obtain ⟨ce204, hce204, hMe204, hcc204⟩ := Kd.N_get HO_4.out z26 x9_2 p204 (by first | exact q204 | exact of_decide_eq_true (by first | (with_reducible assumption) | assumption) | (have e_ := (Kd.N_reads' HO_4.out).1; omega))
           obtain ⟨ua204_8, uc204_8, rfl, ul204_8, ge204_8⟩ := k26_openF hMe204
           have hv204_8 := hcc204 8 _ rfl
           rw [add_field _ _ 8 (by omega)] at hv204_8
           replace hv204_8 := Option.some.inj (hv204_8.symm.trans hx204_8)
           injection hv204_8 with hva_ hvn_ hvc_
           rw [hva_] at ge204_8
           rw [hvc_] at ul204_8
           have HL204_8 := Asd.mk (show Kd.V k26 26 _ w.heap.size _ _ ((rd_T26 x4_1 x9_2).f6) from Kd.V_mk ul204_8 ge204_8)
           clear hva_ hvn_ hvc_ ge204_8 ul204_8 hcc204 hce204
           have HR204_8 := Asd.mk hi204_8
           have HC204_8 := Asd.mk hl204_8
           clear hi204_8 hl204_8
           replace p204 := eq_true p204
           replace q204 := eq_true q204
           go_wp2_with (first | (go_at_call 9; (with_reducible refine (q08_Print.calls ((rd_T26 x4_1 x9_2).f0) ((rd_T26 x4_1 x9_2).f1.f0) ((rd_T26 x4_1 x9_2).f1.f1) ((rd_T26 x4_1 x9_2).f1.f2) ((rd_T26 x4_1 x9_2).f2) ((rd_T26 x4_1 x9_2).f3) ((rd_T26 x4_1 x9_2).f4) ((rd_T26 x4_1 x9_2).f5) _ _ ((rd_T26 x4_1 x9_2).f6) t205 _ ?side1 ?side2 A14.out).mono ?_); (case side1 => repeat (first | exact (by repeat (first | (with_reducible exact HR204_8.out) | (with_reducible refine Kd.C_alloc ?_ _) | (with_reducible refine Kd.C_drewN ?_ _) | (with_reducible refine Kd.C_drew ?_) | exact HR204_8.out)) | (with_reducible refine Kd.C_alloc ?_ _) | (with_reducible refine Kd.C_drewN ?_ _) | (with_reducible refine Kd.C_drew ?_))); (case side2 => exact HC204_8.out); rintro e w17 ⟨rfl, hb⟩; have n0_ := Asd.mk (Kd.N_below (by (with_reducible repeat (first | apply Kd.N_alloc | apply Kd.N_drewN | apply Kd.N_drew)); exact HO_4.out) hb); have n1_ := Asd.mk (Kd.N_below (by (with_reducible repeat (first | apply Kd.N_alloc | apply Kd.N_drewN | apply Kd.N_drew)); exact HO_203008.out) hb); have n2_ := Asd.mk (Kd.V_below (by (with_reducible repeat (first | apply Kd.V_alloc | apply Kd.V_drewN | apply Kd.V_drew)); exact HL204_8.out) hb); have n3_ := Asd.mk (blk_below (g := gb202) (by (with_reducible repeat (first | refine bkN ?_ _ | refine bkD ?_ | refine bkA ?_ _)); exact BK202.out) hb); have n4_ := Asd.mk (Kd.C_below (by repeat (first | (with_reducible exact HR204_8.out) | (with_reducible refine Kd.C_alloc ?_ _) | (with_reducible refine Kd.C_drewN ?_ _) | (with_reducible refine Kd.C_drew ?_) | exact HR204_8.out)) hb); have n5_ := Asd.mk (below_step (by repeat (first | (with_reducible first | exact HB.out | apply blA | apply pbN | apply blD | refine blS ?_ GE202.out) | exact HB.out)) hb); clear HO_4; clear HO_203008; clear HL204_8; clear BK202; clear HR204_8; clear HB; have HO_4 := n0_; have HO_203008 := n1_; have HL204_8 := n2_; have BK202 := n3_; have HR204_8 := n4_; have HB := n5_; clear n0_ n1_ n2_ n3_ n4_ n5_; (try clear hb); (try clear hb2); (try clear hk); (try clear hi)))
           go_roundg k2
           case measure => have := HK1.out; have := HK2.out; omega
           case rel => exact ⟨(wrap64 (x9_2 + 1)), (by first | rfl | (simp; done) | (simp [*]; done)), H', ⟨by have := HK1.out; have := HK2.out; omega⟩, ⟨by (with_reducible repeat (first | apply Kd.N_alloc | apply Kd.N_drewN | apply Kd.N_drew)); exact HO_4.out⟩, ⟨by (with_reducible repeat (first | apply Kd.N_alloc | apply Kd.N_drewN | apply Kd.N_drew)); exact HO_203008.out⟩, ⟨by (with_reducible repeat (first | refine bkN ?_ _ | refine bkD ?_ | refine bkA ?_ _)); exact BK202.out⟩, ⟨by repeat (first | (with_reducible first | exact HB.out | apply blA | apply pbN | apply blD | refine blS ?_ GE202.out) | exact HB.out)⟩⟩
          ·rw [if_neg c15] at H
           have c15b0 : (Op.bytesLess t205.toList t203.toList) = false := by simpa using c15
           clear c15
           replace H := Option.bind_eq_some_iff.mp H
           obtain ⟨t207, A180, H⟩ := H
           replace H : (if t207.toList = t203.toList then (q12_Conds.l0 k2 l0 x4_1 (wrap64 (x5_1 + 1))) else (if x9_2 ≤ (x4_1.length : Int) then ((some (x4_1.take (x9_2 : Int).toNat : List (S26))).bind fun y208 => (if ([] : List (S26)).length + y208.length < 1353245080339 then ((some (([] : List (S26)) ++ y208 : List (S26))).bind fun y213 => (if y213.length < 1353245080339 then ((some (y213 ++ [(⟨t190, (⟨t191, t192, t193⟩ : S23), t194, t195, t196, t197, t198⟩ : S26)] : List (S26))).bind fun y216 => ((some (x4_1.drop (x9_2 : Int).toNat : List (S26))).bind fun y219 => (if y216.length + y219.length < 1353245080339 then (q12_Conds.l0 k2 l0 (y216 ++ y219) (wrap64 (x5_1 + 1))) else (none)))) else (none))) else (none))) else (none))) = some (r1, r2) := H
           have A18 := Asd.mk A180
           clear A180
           by_cases c19 : t207.toList = t203.toList
           ·rw [if_pos c19] at H
            have c19b0 : (t207.toList == t203.toList) = true := beq_iff_eq.mpr c19
            have c19b1 : (t207.toList != t203.toList) = false := bne_eq_false_iff_eq.mpr c19
            clear c19
            have H' := Asd.mk H
            clear H
            obtain ⟨Ao20, co20, eo20⟩ := Kd.N_slice HO_4.out
            subst eo20
            have p204 : 0 ≤ (x9_2 : Int) := of_decide_eq_true (by first | (with_reducible assumption) | assumption)
            have q204 : x9_2 < (x4_1.length : Int) := of_decide_eq_true (by first | (with_reducible assumption) | assumption)
            obtain ⟨ad204, A204_8, c204_8, e204, hx204_0, hx204_1, hx204_2, hx204_3, hx204_4, hx204_5, hx204_6, hx204_7, hx204_8, hl204_8, hi204_8⟩ := at_T26 (Kd.N_reads' HO_4.out).2.2 x9_2 p204 q204
            cases e204
            obtain ⟨ce204, hce204, hMe204, hcc204⟩ := Kd.N_get HO_4.out z26 x9_2 p204 (by first | exact q204 | exact of_decide_eq_true (by first | (with_reducible assumption) | assumption) | (have e_ := (Kd.N_reads' HO_4.out).1; omega))
            obtain ⟨ua204_8, uc204_8, rfl, ul204_8, ge204_8⟩ := k26_openF hMe204
            have hv204_8 := hcc204 8 _ rfl
            rw [add_field _ _ 8 (by omega)] at hv204_8
            replace hv204_8 := Option.some.inj (hv204_8.symm.trans hx204_8)
            injection hv204_8 with hva_ hvn_ hvc_
            rw [hva_] at ge204_8
            rw [hvc_] at ul204_8
            have HL204_8 := Asd.mk (show Kd.V k26 26 _ w.heap.size _ _ ((rd_T26 x4_1 x9_2).f6) from Kd.V_mk ul204_8 ge204_8)
            clear hva_ hvn_ hvc_ ge204_8 ul204_8 hcc204 hce204
            have HR204_8 := Asd.mk hi204_8
            have HC204_8 := Asd.mk hl204_8
            clear hi204_8 hl204_8
            replace p204 := eq_true p204
            replace q204 := eq_true q204
            go_wp2_with (first | (go_at_call 9; (with_reducible refine (q08_Print.calls ((rd_T26 x4_1 x9_2).f0) ((rd_T26 x4_1 x9_2).f1.f0) ((rd_T26 x4_1 x9_2).f1.f1) ((rd_T26 x4_1 x9_2).f1.f2) ((rd_T26 x4_1 x9_2).f2) ((rd_T26 x4_1 x9_2).f3) ((rd_T26 x4_1 x9_2).f4) ((rd_T26 x4_1 x9_2).f5) _ _ ((rd_T26 x4_1 x9_2).f6) t205 _ ?side1 ?side2 A14.out).mono ?_); (case side1 => repeat (first | exact (by repeat (first | (with_reducible exact HR204_8.out) | (with_reducible refine Kd.C_alloc ?_ _) | (with_reducible refine Kd.C_drewN ?_ _) | (with_reducible refine Kd.C_drew ?_) | exact HR204_8.out)) | (with_reducible refine Kd.C_alloc ?_ _) | (with_reducible refine Kd.C_drewN ?_ _) | (with_reducible refine Kd.C_drew ?_))); (case side2 => exact HC204_8.out); rintro e w21 ⟨rfl, hb⟩; have n0_ := Asd.mk (Kd.N_below (by (with_reducible repeat (first | apply Kd.N_alloc | apply Kd.N_drewN | apply Kd.N_drew)); exact HO_4.out) hb); have n1_ := Asd.mk (Kd.N_below (by (with_reducible repeat (first | apply Kd.N_alloc | apply Kd.N_drewN | apply Kd.N_drew)); exact HO_203008.out) hb); have n2_ := Asd.mk (Kd.V_below (by (with_reducible repeat (first | apply Kd.V_alloc | apply Kd.V_drewN | apply Kd.V_drew)); exact HL204_8.out) hb); have n3_ := Asd.mk (blk_below (g := gb202) (by (with_reducible repeat (first | refine bkN ?_ _ | refine bkD ?_ | refine bkA ?_ _)); exact BK202.out) hb); have n4_ := Asd.mk (Kd.C_below (by repeat (first | (with_reducible exact HR204_8.out) | (with_reducible refine Kd.C_alloc ?_ _) | (with_reducible refine Kd.C_drewN ?_ _) | (with_reducible refine Kd.C_drew ?_) | exact HR204_8.out)) hb); have n5_ := Asd.mk (below_step (by repeat (first | (with_reducible first | exact HB.out | apply blA | apply pbN | apply blD | refine blS ?_ GE202.out) | exact HB.out)) hb); clear HO_4; clear HO_203008; clear HL204_8; clear BK202; clear HR204_8; clear HB; have HO_4 := n0_; have HO_203008 := n1_; have HL204_8 := n2_; have BK202 := n3_; have HR204_8 := n4_; have HB := n5_; clear n0_ n1_ n2_ n3_ n4_ n5_; (try clear hb); (try clear hb2); (try clear hk); (try clear hi); have p206 : 0 ≤ (x9_2 : Int) := of_decide_eq_true (by first | (with_reducible assumption) | assumption); have q206 : x9_2 < (x4_1.length : Int) := of_decide_eq_true (by first | (with_reducible assumption) | assumption); obtain ⟨ad206, A206_8, c206_8, e206, hx206_0, hx206_1, hx206_2, hx206_3, hx206_4, hx206_5, hx206_6, hx206_7, hx206_8, hl206_8, hi206_8⟩ := at_T26 (Kd.N_reads' HO_4.out).2.2 x9_2 p206 q206; obtain rfl : ad204 = ad206 := (by injection e206); obtain ⟨ce206, hce206, hMe206, hcc206⟩ := Kd.N_get HO_4.out z26 x9_2 p206 (by first | exact q206 | exact of_decide_eq_true (by first | (with_reducible assumption) | assumption) | (have e_ := (Kd.N_reads' HO_4.out).1; omega)); obtain ⟨ua206_8, uc206_8, rfl, ul206_8, ge206_8⟩ := k26_openF hMe206; have hv206_8 := hcc206 8 _ rfl; rw [add_field _ _ 8 (by omega)] at hv206_8; replace hv206_8 := Option.some.inj (hv206_8.symm.trans hx206_8); injection hv206_8 with hva_ hvn_ hvc_; rw [hva_] at ge206_8; rw [hvc_] at ul206_8; have HL206_8 := Asd.mk (show Kd.V k26 26 _ w.heap.size _ _ ((rd_T26 x4_1 x9_2).f6) from Kd.V_mk ul206_8 ge206_8); clear hva_ hvn_ hvc_ ge206_8 ul206_8; clear hcc206 hce206; have HR206_8 := Asd.mk hi206_8; have HC206_8 := Asd.mk hl206_8; clear hi206_8 hl206_8; replace p206 := eq_true p206; replace q206 := eq_true q206) | (go_at_call 9; (with_reducible refine (q08_Print.calls ((rd_T26 x4_1 x9_2).f0) ((rd_T26 x4_1 x9_2).f1.f0) ((rd_T26 x4_1 x9_2).f1.f1) ((rd_T26 x4_1 x9_2).f1.f2) ((rd_T26 x4_1 x9_2).f2) ((rd_T26 x4_1 x9_2).f3) ((rd_T26 x4_1 x9_2).f4) ((rd_T26 x4_1 x9_2).f5) _ _ ((rd_T26 x4_1 x9_2).f6) t207 _ ?side1 ?side2 A18.out).mono ?_); (case side1 => repeat (first | exact (by repeat (first | (with_reducible exact HR206_8.out) | (with_reducible refine Kd.C_alloc ?_ _) | (with_reducible refine Kd.C_drewN ?_ _) | (with_reducible refine Kd.C_drew ?_) | exact HR206_8.out)) | (with_reducible refine Kd.C_alloc ?_ _) | (with_reducible refine Kd.C_drewN ?_ _) | (with_reducible refine Kd.C_drew ?_))); (case side2 => exact HC206_8.out); rintro e w22 ⟨rfl, hb⟩; have n0_ := Asd.mk (Kd.N_below (by (with_reducible repeat (first | apply Kd.N_alloc | apply Kd.N_drewN | apply Kd.N_drew)); exact HO_4.out) hb); have n1_ := Asd.mk (Kd.N_below (by (with_reducible repeat (first | apply Kd.N_alloc | apply Kd.N_drewN | apply Kd.N_drew)); exact HO_203008.out) hb); have n2_ := Asd.mk (Kd.V_below (by (with_reducible repeat (first | apply Kd.V_alloc | apply Kd.V_drewN | apply Kd.V_drew)); exact HL204_8.out) hb); have n3_ := Asd.mk (Kd.V_below (by (with_reducible repeat (first | apply Kd.V_alloc | apply Kd.V_drewN | apply Kd.V_drew)); exact HL206_8.out) hb); have n4_ := Asd.mk (blk_below (g := gb202) (by (with_reducible repeat (first | refine bkN ?_ _ | refine bkD ?_ | refine bkA ?_ _)); exact BK202.out) hb); have n5_ := Asd.mk (Kd.C_below (by repeat (first | (with_reducible exact HR204_8.out) | (with_reducible refine Kd.C_alloc ?_ _) | (with_reducible refine Kd.C_drewN ?_ _) | (with_reducible refine Kd.C_drew ?_) | exact HR204_8.out)) hb); have n6_ := Asd.mk (Kd.C_below (by repeat (first | (with_reducible exact HR206_8.out) | (with_reducible refine Kd.C_alloc ?_ _) | (with_reducible refine Kd.C_drewN ?_ _) | (with_reducible refine Kd.C_drew ?_) | exact HR206_8.out)) hb); have n7_ := Asd.mk (below_step (by repeat (first | (with_reducible first | exact HB.out | apply blA | apply pbN | apply blD | refine blS ?_ GE202.out) | exact HB.out)) hb); clear HO_4; clear HO_203008; clear HL204_8; clear HL206_8; clear BK202; clear HR204_8; clear HR206_8; clear HB; have HO_4 := n0_; have HO_203008 := n1_; have HL204_8 := n2_; have HL206_8 := n3_; have BK202 := n4_; have HR204_8 := n5_; have HR206_8 := n6_; have HB := n7_; clear n0_ n1_ n2_ n3_ n4_ n5_ n6_ n7_; (try clear hb); (try clear hb2); (try clear hk); (try clear hi)))
            go_roundg k2
            case measure => have := HK1.out; have := HK2.out; omega
            case rel => exact ⟨(x4_1), (wrap64 (x5_1 + 1)), (by first | rfl | (simp; done) | (simp [*]; done)), H', ⟨by have := HK1.out; have := HK2.out; omega⟩, ⟨by (with_reducible repeat (first | apply Kd.N_alloc | apply Kd.N_drewN | apply Kd.N_drew)); exact Kd.N_mono HO_4.out (fun _ hk => hk.1)⟩, ⟨by repeat (first | (with_reducible first | exact HB.out | apply blA | apply pbN | apply blD | refine blS ?_ GE202.out) | exact HB.out)⟩⟩
           ·rw [if_neg c19] at H
            have c19b0 : (t207.toList == t203.toList) = false := beq_eq_false_iff_ne.mpr c19
            have c19b1 : (t207.toList != t203.toList) = true := bne_iff_ne.mpr c19
            have c23b0 := eq_true (of_decide_eq_true (by first | (with_reducible assumption) | assumption) : 0 ≤ x9_2)
            by_cases c24 : x9_2 ≤ (x4_1.length : Int)
            ·rw [if_pos c24] at H
             have c24b0 := eq_true c24
             have c24b1 : decide (x9_2 ≤ (x4_1.length : Int)) = true := decide_eq_true c24
             clear c24
             obtain ⟨y208, hy208⟩ : ∃ y_ : List (S26), y_ = (x4_1.take (x9_2 : Int).toNat) := ⟨_, rfl⟩
             replace H : (if ([] : List (S26)).length + y208.length < 1353245080339 then ((some (([] : List (S26)) ++ y208 : List (S26))).bind fun y213 => (if y213.length < 1353245080339 then ((some (y213 ++ [(⟨t190, (⟨t191, t192, t193⟩ : S23), t194, t195, t196, t197, t198⟩ : S26)] : List (S26))).bind fun y216 => ((some (x4_1.drop (x9_2 : Int).toNat : List (S26))).bind fun y219 => (if y216.length + y219.length < 1353245080339 then (q12_Conds.l0 k2 l0 (y216 ++ y219) (wrap64 (x5_1 + 1))) else (none)))) else (none))) else (none)) = some (r1, r2) := by first | (rw [hy208]; with_reducible exact H) | (have H2_ := (Option.bind_some _ _).symm.trans H; rw [hy208]; with_reducible exact H2_) | (have H2_ := (Option.bind_some _ _).symm.trans H; with_reducible exact H2_) | with_reducible exact H | (rw [hy208]; exact H) | exact H
             have Ny208 := Asd.mk hy208
             clear hy208
             by_cases c25 : ([] : List (S26)).length + y208.length < 1353245080339
             ·rw [if_pos c25] at H
              have LMc25 := Asd.mk c25
              clear c25
              obtain ⟨y213, hy213⟩ : ∃ y_ : List (S26), y_ = (([] : List (S26)) ++ y208) := ⟨_, rfl⟩
              replace H : (if y213.length < 1353245080339 then ((some (y213 ++ [(⟨t190, (⟨t191, t192, t193⟩ : S23), t194, t195, t196, t197, t198⟩ : S26)] : List (S26))).bind fun y216 => ((some (x4_1.drop (x9_2 : Int).toNat : List (S26))).bind fun y219 => (if y216.length + y219.length < 1353245080339 then (q12_Conds.l0 k2 l0 (y216 ++ y219) (wrap64 (x5_1 + 1))) else (none)))) else (none)) = some (r1, r2) := by first | (rw [hy213]; with_reducible exact H) | (have H2_ := (Option.bind_some _ _).symm.trans H; rw [hy213]; with_reducible exact H2_) | (have H2_ := (Option.bind_some _ _).symm.trans H; with_reducible exact H2_) | with_reducible exact H | (rw [hy213]; exact H) | exact H
              have Ny213 := Asd.mk hy213
              clear hy213
              by_cases c26 : y213.length < 1353245080339
              ·rw [if_pos c26] at H
               have LMc26 := Asd.mk c26
               clear c26
               obtain ⟨y216, hy216⟩ : ∃ y_ : List (S26), y_ = (y213 ++ [(⟨t190, (⟨t191, t192, t193⟩ : S23), t194, t195, t196, t197, t198⟩ : S26)]) := ⟨_, rfl⟩
               replace H : ((some (x4_1.drop (x9_2 : Int).toNat : List (S26))).bind fun y219 => (if y216.length + y219.length < 1353245080339 then (q12_Conds.l0 k2 l0 (y216 ++ y219) (wrap64 (x5_1 + 1))) else (none))) = some (r1, r2) := by first | (rw [hy216]; with_reducible exact H) | (have H2_ := (Option.bind_some _ _).symm.trans H; rw [hy216]; with_reducible exact H2_) | (have H2_ := (Option.bind_some _ _).symm.trans H; with_reducible exact H2_) | with_reducible exact H | (rw [hy216]; exact H) | exact H
               have Ny216 := Asd.mk hy216
               clear hy216
               have c27b0 := eq_true (of_decide_eq_true (by first | (with_reducible assumption) | assumption) : 0 ≤ x9_2)
               have c28b0 := eq_true (of_decide_eq_true (by first | (with_reducible assumption) | assumption) : x9_2 ≤ (x4_1.length : Int))
               obtain ⟨y219, hy219⟩ : ∃ y_ : List (S26), y_ = (x4_1.drop (x9_2 : Int).toNat) := ⟨_, rfl⟩
               replace H : (if y216.length + y219.length < 1353245080339 then (q12_Conds.l0 k2 l0 (y216 ++ y219) (wrap64 (x5_1 + 1))) else (none)) = some (r1, r2) := by first | (rw [hy219]; with_reducible exact H) | (have H2_ := (Option.bind_some _ _).symm.trans H; rw [hy219]; with_reducible exact H2_) | (have H2_ := (Option.bind_some _ _).symm.trans H; with_reducible exact H2_) | with_reducible exact H | (rw [hy219]; exact H) | exact H
               have Ny219 := Asd.mk hy219
               clear hy219
               by_cases c29 : y216.length + y219.length < 1353245080339
               ·rw [if_pos c29] at H
                have LMc29 := Asd.mk c29
                clear c29
                obtain ⟨y224, hy224⟩ : ∃ y_ : List (S26), y_ = (y216 ++ y219) := ⟨_, rfl⟩
                replace H : (q12_Conds.l0 k2 l0 y224 (wrap64 (x5_1 + 1))) = some (r1, r2) := by first | (rw [hy224]; with_reducible exact H) | (have H2_ := (Option.bind_some _ _).symm.trans H; rw [hy224]; with_reducible exact H2_) | (have H2_ := (Option.bind_some _ _).symm.trans H; with_reducible exact H2_) | with_reducible exact H | (rw [hy224]; exact H) | exact H
                have Ny224 := Asd.mk hy224
                clear hy224
                have H' := Asd.mk H
                clear H
                obtain ⟨Ao30, co30, eo30⟩ := Kd.N_slice HO_4.out
                subst eo30
                have p204 : 0 ≤ (x9_2 : Int) := of_decide_eq_true (by first | (with_reducible assumption) | assumption)
                have q204 : x9_2 < (x4_1.length : Int) := of_decide_eq_true (by first | (with_reducible assumption) | assumption)
                obtain ⟨ad204, A204_8, c204_8, e204, hx204_0, hx204_1, hx204_2, hx204_3, hx204_4, hx204_5, hx204_6, hx204_7, hx204_8, hl204_8, hi204_8⟩ := at_T26 (Kd.N_reads' HO_4.out).2.2 x9_2 p204 q204
                cases e204
                obtain ⟨ce204, hce204, hMe204, hcc204⟩ := Kd.N_get HO_4.out z26 x9_2 p204 (by first | exact q204 | exact of_decide_eq_true (by first | (with_reducible assumption) | assumption) | (have e_ := (Kd.N_reads' HO_4.out).1; omega))
                obtain ⟨ua204_8, uc204_8, rfl, ul204_8, ge204_8⟩ := k26_openF hMe204
                have hv204_8 := hcc204 8 _ rfl
                rw [add_field _ _ 8 (by omega)] at hv204_8
                replace hv204_8 := Option.some.inj (hv204_8.symm.trans hx204_8)
                injection hv204_8 with hva_ hvn_ hvc_
                rw [hva_] at ge204_8
                rw [hvc_] at ul204_8
                have HL204_8 := Asd.mk (show Kd.V k26 26 _ w.heap.size _ _ ((rd_T26 x4_1 x9_2).f6) from Kd.V_mk ul204_8 ge204_8)
                clear hva_ hvn_ hvc_ ge204_8 ul204_8 hcc204 hce204
                have HR204_8 := Asd.mk hi204_8
                have HC204_8 := Asd.mk hl204_8
                clear hi204_8 hl204_8
                replace p204 := eq_true p204
                replace q204 := eq_true q204
                go_wp2_with (first | (go_at_call 9; (with_reducible refine (q08_Print.calls ((rd_T26 x4_1 x9_2).f0) ((rd_T26 x4_1 x9_2).f1.f0) ((rd_T26 x4_1 x9_2).f1.f1) ((rd_T26 x4_1 x9_2).f1.f2) ((rd_T26 x4_1 x9_2).f2) ((rd_T26 x4_1 x9_2).f3) ((rd_T26 x4_1 x9_2).f4) ((rd_T26 x4_1 x9_2).f5) _ _ ((rd_T26 x4_1 x9_2).f6) t205 _ ?side1 ?side2 A14.out).mono ?_); (case side1 => repeat (first | exact (by repeat (first | (with_reducible exact HR204_8.out) | (with_reducible refine Kd.C_alloc ?_ _) | (with_reducible refine Kd.C_drewN ?_ _) | (with_reducible refine Kd.C_drew ?_) | exact HR204_8.out)) | (with_reducible refine Kd.C_alloc ?_ _) | (with_reducible refine Kd.C_drewN ?_ _) | (with_reducible refine Kd.C_drew ?_))); (case side2 => exact HC204_8.out); rintro e w31 ⟨rfl, hb⟩; have n0_ := Asd.mk (Kd.N_below (by (with_reducible repeat (first | apply Kd.N_alloc | apply Kd.N_drewN | apply Kd.N_drew)); exact HO_4.out) hb); have n1_ := Asd.mk (Kd.N_below (by (with_reducible repeat (first | apply Kd.N_alloc | apply Kd.N_drewN | apply Kd.N_drew)); exact HO_203008.out) hb); have n2_ := Asd.mk (Kd.V_below (by (with_reducible repeat (first | apply Kd.V_alloc | apply Kd.V_drewN | apply Kd.V_drew)); exact HL204_8.out) hb); have n3_ := Asd.mk (blk_below (g := gb202) (by (with_reducible repeat (first | refine bkN ?_ _ | refine bkD ?_ | refine bkA ?_ _)); exact BK202.out) hb); have n4_ := Asd.mk (Kd.C_below (by repeat (first | (with_reducible exact HR204_8.out) | (with_reducible refine Kd.C_alloc ?_ _) | (with_reducible refine Kd.C_drewN ?_ _) | (with_reducible refine Kd.C_drew ?_) | exact HR204_8.out)) hb); have n5_ := Asd.mk (below_step (by repeat (first | (with_reducible first | exact HB.out | apply blA | apply pbN | apply blD | refine blS ?_ GE202.out) | exact HB.out)) hb); clear HO_4; clear HO_203008; clear HL204_8; clear BK202; clear HR204_8; clear HB; have HO_4 := n0_; have HO_203008 := n1_; have HL204_8 := n2_; have BK202 := n3_; have HR204_8 := n4_; have HB := n5_; clear n0_ n1_ n2_ n3_ n4_ n5_; (try clear hb); (try clear hb2); (try clear hk); (try clear hi); have p206 : 0 ≤ (x9_2 : Int) := of_decide_eq_true (by first | (with_reducible assumption) | assumption); have q206 : x9_2 < (x4_1.length : Int) := of_decide_eq_true (by first | (with_reducible assumption) | assumption); obtain ⟨ad206, A206_8, c206_8, e206, hx206_0, hx206_1, hx206_2, hx206_3, hx206_4, hx206_5, hx206_6, hx206_7, hx206_8, hl206_8, hi206_8⟩ := at_T26 (Kd.N_reads' HO_4.out).2.2 x9_2 p206 q206; obtain rfl : ad204 = ad206 := (by injection e206); obtain ⟨ce206, hce206, hMe206, hcc206⟩ := Kd.N_get HO_4.out z26 x9_2 p206 (by first | exact q206 | exact of_decide_eq_true (by first | (with_reducible assumption) | assumption) | (have e_ := (Kd.N_reads' HO_4.out).1; omega)); obtain ⟨ua206_8, uc206_8, rfl, ul206_8, ge206_8⟩ := k26_openF hMe206; have hv206_8 := hcc206 8 _ rfl; rw [add_field _ _ 8 (by omega)] at hv206_8; replace hv206_8 := Option.some.inj (hv206_8.symm.trans hx206_8); injection hv206_8 with hva_ hvn_ hvc_; rw [hva_] at ge206_8; rw [hvc_] at ul206_8; have HL206_8 := Asd.mk (show Kd.V k26 26 _ w.heap.size _ _ ((rd_T26 x4_1 x9_2).f6) from Kd.V_mk ul206_8 ge206_8); clear hva_ hvn_ hvc_ ge206_8 ul206_8; clear hcc206 hce206; have HR206_8 := Asd.mk hi206_8; have HC206_8 := Asd.mk hl206_8; clear hi206_8 hl206_8; replace p206 := eq_true p206; replace q206 := eq_true q206) | (go_at_call 9; (with_reducible refine (q08_Print.calls ((rd_T26 x4_1 x9_2).f0) ((rd_T26 x4_1 x9_2).f1.f0) ((rd_T26 x4_1 x9_2).f1.f1) ((rd_T26 x4_1 x9_2).f1.f2) ((rd_T26 x4_1 x9_2).f2) ((rd_T26 x4_1 x9_2).f3) ((rd_T26 x4_1 x9_2).f4) ((rd_T26 x4_1 x9_2).f5) _ _ ((rd_T26 x4_1 x9_2).f6) t207 _ ?side1 ?side2 A18.out).mono ?_); (case side1 => repeat (first | exact (by repeat (first | (with_reducible exact HR206_8.out) | (with_reducible refine Kd.C_alloc ?_ _) | (with_reducible refine Kd.C_drewN ?_ _) | (with_reducible refine Kd.C_drew ?_) | exact HR206_8.out)) | (with_reducible refine Kd.C_alloc ?_ _) | (with_reducible refine Kd.C_drewN ?_ _) | (with_reducible refine Kd.C_drew ?_))); (case side2 => exact HC206_8.out); rintro e w32 ⟨rfl, hb⟩; have n0_ := Asd.mk (Kd.N_below (by (with_reducible repeat (first | apply Kd.N_alloc | apply Kd.N_drewN | apply Kd.N_drew)); exact HO_4.out) hb); have n1_ := Asd.mk (Kd.N_below (by (with_reducible repeat (first | apply Kd.N_alloc | apply Kd.N_drewN | apply Kd.N_drew)); exact HO_203008.out) hb); have n2_ := Asd.mk (Kd.V_below (by (with_reducible repeat (first | apply Kd.V_alloc | apply Kd.V_drewN | apply Kd.V_drew)); exact HL204_8.out) hb); have n3_ := Asd.mk (Kd.V_below (by (with_reducible repeat (first | apply Kd.V_alloc | apply Kd.V_drewN | apply Kd.V_drew)); exact HL206_8.out) hb); have n4_ := Asd.mk (blk_below (g := gb202) (by (with_reducible repeat (first | refine bkN ?_ _ | refine bkD ?_ | refine bkA ?_ _)); exact BK202.out) hb); have n5_ := Asd.mk (Kd.C_below (by repeat (first | (with_reducible exact HR204_8.out) | (with_reducible refine Kd.C_alloc ?_ _) | (with_reducible refine Kd.C_drewN ?_ _) | (with_reducible refine Kd.C_drew ?_) | exact HR204_8.out)) hb); have n6_ := Asd.mk (Kd.C_below (by repeat (first | (with_reducible exact HR206_8.out) | (with_reducible refine Kd.C_alloc ?_ _) | (with_reducible refine Kd.C_drewN ?_ _) | (with_reducible refine Kd.C_drew ?_) | exact HR206_8.out)) hb); have n7_ := Asd.mk (below_step (by repeat (first | (with_reducible first | exact HB.out | apply blA | apply pbN | apply blD | refine blS ?_ GE202.out) | exact HB.out)) hb); clear HO_4; clear HO_203008; clear HL204_8; clear HL206_8; clear BK202; clear HR204_8; clear HR206_8; clear HB; have HO_4 := n0_; have HO_203008 := n1_; have HL204_8 := n2_; have HL206_8 := n3_; have BK202 := n4_; have HR204_8 := n5_; have HR206_8 := n6_; have HB := n7_; clear n0_ n1_ n2_ n3_ n4_ n5_ n6_ n7_; (try clear hb); (try clear hb2); (try clear hk); (try clear hi); have q33 : (x9_2 : Int) ≤ ((x4_1.length : Int) : Int) := of_decide_eq_true (by first | (with_reducible assumption) | assumption); obtain ⟨i033, hi033, _, hsz33, _⟩ := info_parts info26; have hroom33 : x4_1.length ≤ co30 := (Kd.N_reads' HO_4.out).2.1; have hC33 : Kd.F k26 _ _ (some ad204) x4_1.length x4_1 := (Kd.V_at (base := w.heap.size) (Kd.N_V HO_4.out)).2.2; have hcut33 := cut_to (P := Tryd.prog) 24 26 .i64 Tryd.underlying24 hi033 (some ad204) x4_1.length co30 x9_2 (of_decide_eq_true (by first | (with_reducible assumption) | assumption)) q33 hroom33; have hr33 := Kd.F_take (m := (x9_2 : Int).toNat) hC33 (by omega); have hy33 : y208.length = (x9_2 : Int).toNat := (by rw [Ny208.out, List.length_take]; omega); rw [← Ny208.out] at hr33; rw [← hy33] at hcut33; have HO212 := Asd.mk (show Kd.V k26 26 _ w.heap.size _ (.slice (some ad204) y208.length co30) y208 from Kd.V_mk (by omega) hr33); have HC212 := Asd.mk (show y208.length ≤ co30 from by omega); clear hr33 hC33 hroom33 hi033 hsz33; have KY33 := Asd.mk hy33; clear hy33; replace q33 := eq_true q33) | ((with_reducible refine gate_builtin (b := .append) (xs := #[.tmp 57, .tmp 60]) rfl ?_); at_builtin; refine Kd.N_append_rows k26 (w0 := w) w.heap.size rfl (.tmp 57) (.tmp 60) 24 26 (.agg #[(.int .i64 0), (.int .i64 0), (.int .i64 0), (.string ⟨#[]⟩), (.int .i64 0), (.int .i64 0), (.int .i64 0), (.string ⟨#[]⟩), (.slice none 0 0)]) 104 rfl Tryd.underlying24 info26 rfl (by decide) (by omega) (.slice none 0 0) ([] : List (S26)) y208 _ _ _ (fun k_ => (w.heap.size ≤ k_) ∧ some k_ ≠ (.slice Ao10 t198.length co10 : Value).ownBlock ∧ k_ ≠ gb202) (fun k_ => ((fun k_ => (w.heap.size ≤ k_) ∧ some k_ ≠ (.slice Ao10 t198.length co10 : Value).ownBlock ∧ k_ ≠ gb202)) k_ ∧ some k_ ≠ (.slice none 0 0 : Value).ownBlock) rfl rfl ?aO ?aR (fun _ hk => hk) ?aF ?aB ?aS ?aL ?_; (case aR => exact (by skip; exact Kd.V_F (Kd.V_mono (ok' := (fun k_ => ((fun k_ => (w.heap.size ≤ k_) ∧ some k_ ≠ (.slice Ao10 t198.length co10 : Value).ownBlock ∧ k_ ≠ gb202)) k_ ∧ some k_ ≠ (.slice none 0 0 : Value).ownBlock)) (HO212.out) (fun k_ hk => ⟨⟨hk.1, ⟨hk.2.1, hk.2.2⟩⟩, (by simp [Value.ownBlock])⟩)))); (case aB => exact (by repeat (first | (with_reducible first | exact HB.out | apply blA | apply pbN | apply blD | refine blS ?_ GE202.out) | exact HB.out))); (case aF => exact (fun k_ hk => ⟨(Nat.le_trans (below_size (by repeat (first | (with_reducible first | exact HB.out | apply blA | apply pbN | apply blD | refine blS ?_ GE202.out) | exact HB.out))) hk), Kd.fresh' (Kd.N_lt (by (with_reducible repeat (first | apply Kd.N_alloc | apply Kd.N_drewN | apply Kd.N_drew)); exact HO_203008.out)) k_ hk, Kd.freshB (g := gb202) (o := .cells #[.int .i64 t190, .int .i64 t191, .int .i64 t192, .string t193, .int .i64 t194, .int .i64 t195, .int .i64 t196, .string t197, .slice Ao10 t198.length co10] 26 (0, 0)) (by (with_reducible repeat (first | refine bkN ?_ _ | refine bkD ?_ | refine bkA ?_ _)); exact BK202.out) k_ hk⟩)); (case aO => exact ((Kd.N_nil _ _ _ _ (fun k_ => (w.heap.size ≤ k_) ∧ some k_ ≠ (.slice Ao10 t198.length co10 : Value).ownBlock ∧ k_ ≠ gb202)))); (case aS => exact (below_size (by repeat (first | (with_reducible first | exact HB.out | apply blA | apply pbN | apply blD | refine blS ?_ GE202.out) | exact HB.out)))); (case aL => have := LMc25.out; omega); intro v214 w34 ho hb hg hat; rw [← Ny213.out] at ho; have n0_ := Asd.mk (Kd.N_afterv (Kd.N_apart_nil (by (with_reducible repeat (first | apply Kd.N_alloc | apply Kd.N_drewN | apply Kd.N_drew)); exact HO_4.out)) hg hat); have n1_ := Asd.mk (Kd.N_afterv (Kd.N_apart_nil (by (with_reducible repeat (first | apply Kd.N_alloc | apply Kd.N_drewN | apply Kd.N_drew)); exact HO_203008.out)) hg hat); have n2_ := Asd.mk (blk_grown (g := gb202) (o := .cells #[.int .i64 t190, .int .i64 t191, .int .i64 t192, .string t193, .int .i64 t194, .int .i64 t195, .int .i64 t196, .string t197, .slice Ao10 t198.length co10] 26 (0, 0)) (by (with_reducible repeat (first | refine bkN ?_ _ | refine bkD ?_ | refine bkA ?_ _)); exact BK202.out) hg (by simp [Value.ownBlock])); have n3_ := Asd.mk (Kd.V_afterv (Kd.V_apart_nil (by (with_reducible repeat (first | apply Kd.V_alloc | apply Kd.V_drewN | apply Kd.V_drew)); exact HL204_8.out)) hg hat); have n4_ := Asd.mk (Kd.V_afterv (Kd.V_apart_nil (by (with_reducible repeat (first | apply Kd.V_alloc | apply Kd.V_drewN | apply Kd.V_drew)); exact HL206_8.out)) hg hat); have n5_ := Asd.mk (Kd.V_afterv (Kd.V_apart_nil (by (with_reducible repeat (first | apply Kd.V_alloc | apply Kd.V_drewN | apply Kd.V_drew)); exact HO212.out)) hg hat); have n6_ := Asd.mk (hb); have n7_ := Asd.mk (ho); clear HO_4; clear HO_203008; clear BK202; clear HL204_8; clear HL206_8; clear HO212; clear HB; have HO_4 := n0_; have HO_203008 := n1_; have BK202 := n2_; have HL204_8 := n3_; have HL206_8 := n4_; have HO212 := n5_; have HB := n6_; have HO215 := n7_; clear n0_ n1_ n2_ n3_ n4_ n5_ n6_ n7_; clear ho hb hg hat; obtain ⟨hcz35_0, hcz35_1, hcz35_2, hcz35_3, hcz35_4, hcz35_5, hcz35_6, hcz35_7, hcz35_8⟩ := bkC9 BK202.out; obtain ⟨hfz35_0, hfz35_1, hfz35_2, hfz35_3, hfz35_4, hfz35_5, hfz35_6, hfz35_7, hfz35_8⟩ := bkF9 BK202.out) | ((with_reducible refine gate_builtin (b := .append) (xs := #[.tmp 62, .tmp 64]) rfl ?_); at_builtin; refine Kd.N_append k26 (w0 := w) w.heap.size rfl (.tmp 62) (.tmp 64) 24 26 (.agg #[(.int .i64 0), (.int .i64 0), (.int .i64 0), (.string ⟨#[]⟩), (.int .i64 0), (.int .i64 0), (.int .i64 0), (.string ⟨#[]⟩), (.slice none 0 0)]) 104 rfl Tryd.underlying24 info26 rfl (by decide) (by omega) v214 y213 (⟨t190, (⟨t191, t192, t193⟩ : S23), t194, t195, t196, t197, t198⟩ : S26) [.int .i64 t190, .int .i64 t191, .int .i64 t192, .string t193, .int .i64 t194, .int .i64 t195, .int .i64 t196, .string t197, .slice Ao10 t198.length co10] (fun k_ => (w.heap.size ≤ k_) ∧ k_ ≠ gb202) (fun k_ => ((fun k_ => (w.heap.size ≤ k_) ∧ k_ ≠ gb202)) k_ ∧ some k_ ≠ (v214 : Value).ownBlock) rfl rfl ?aP (fun _ hk => hk) ?aF ?aO ?aB ?aS ?aL ?_; (case aP => exact (k26_mkF _ _ (⟨t190, (⟨t191, t192, t193⟩ : S23), t194, t195, t196, t197, t198⟩ : S26) (Kd.N_reads' (Kd.N_mono (ok' := (fun k_ => ((fun k_ => (w.heap.size ≤ k_) ∧ k_ ≠ gb202)) k_ ∧ some k_ ≠ (v214 : Value).ownBlock)) (HO_203008.out) (fun k_ hk => ⟨⟨hk.1.1, hk.1.2.2⟩, hk.2⟩))).2.1 (Kd.N_F (Kd.N_mono (ok' := (fun k_ => ((fun k_ => (w.heap.size ≤ k_) ∧ k_ ≠ gb202)) k_ ∧ some k_ ≠ (v214 : Value).ownBlock)) (HO_203008.out) (fun k_ hk => ⟨⟨hk.1.1, hk.1.2.2⟩, hk.2⟩))))); (case aB => exact (by repeat (first | (with_reducible first | exact HB.out | apply blA | apply pbN | apply blD | refine blS ?_ GE202.out) | exact HB.out))); (case aF => exact (fun k_ hk => ⟨(Nat.le_trans (below_size (by repeat (first | (with_reducible first | exact HB.out | apply blA | apply pbN | apply blD | refine blS ?_ GE202.out) | exact HB.out))) hk), Kd.freshB (g := gb202) (o := .cells #[.int .i64 t190, .int .i64 t191, .int .i64 t192, .string t193, .int .i64 t194, .int .i64 t195, .int .i64 t196, .string t197, .slice Ao10 t198.length co10] 26 (0, 0)) (by (with_reducible repeat (first | refine bkN ?_ _ | refine bkD ?_ | refine bkA ?_ _)); exact BK202.out) k_ hk⟩)); (case aO => exact (by (with_reducible repeat (first | apply Kd.N_alloc | apply Kd.N_drewN | apply Kd.N_drew)); exact Kd.N_mono HO215.out (fun _ hk => ⟨hk.1, hk.2.2⟩))); (case aS => exact (below_size (by repeat (first | (with_reducible first | exact HB.out | apply blA | apply pbN | apply blD | refine blS ?_ GE202.out) | exact HB.out)))); (case aL => have := LMc26.out; omega); intro v217 w36 ho hb hg hat; rw [← Ny216.out] at ho; have n0_ := Asd.mk (Kd.N_afterv (ok := (fun k_ => (w.heap.size ≤ k_) ∧ some k_ ≠ (.slice Ao10 t198.length co10 : Value).ownBlock ∧ k_ ≠ gb202)) (by (with_reducible repeat (first | apply Kd.N_alloc | apply Kd.N_drewN | apply Kd.N_drew)); exact HO_4.out) hg hat); have n1_ := Asd.mk (blk_grown (g := gb202) (o := .cells #[.int .i64 t190, .int .i64 t191, .int .i64 t192, .string t193, .int .i64 t194, .int .i64 t195, .int .i64 t196, .string t197, .slice Ao10 t198.length co10] 26 (0, 0)) (by (with_reducible repeat (first | refine bkN ?_ _ | refine bkD ?_ | refine bkA ?_ _)); exact BK202.out) hg (Kd.N_away HO215.out (fun _ hk => hk.2.2))); have n2_ := Asd.mk (Kd.V_afterv (ok := (fun k_ => (w.heap.size ≤ k_) ∧ some k_ ≠ (.slice (some ad204) x4_1.length co30 : Value).ownBlock ∧ some k_ ≠ (.slice Ao10 t198.length co10 : Value).ownBlock ∧ k_ ≠ gb202)) (by (with_reducible repeat (first | apply Kd.V_alloc | apply Kd.V_drewN | apply Kd.V_drew)); exact Kd.V_mono HL204_8.out (fun _ hk => ⟨⟨hk.1.1.1, ⟨hk.1.2, ⟨hk.1.1.2.1, hk.1.1.2.2⟩⟩⟩, hk.2⟩)) hg hat); have n3_ := Asd.mk (Kd.V_afterv (ok := (fun k_ => (w.heap.size ≤ k_) ∧ some k_ ≠ (.slice (some ad204) x4_1.length co30 : Value).ownBlock ∧ some k_ ≠ (.slice Ao10 t198.length co10 : Value).ownBlock ∧ k_ ≠ gb202)) (by (with_reducible repeat (first | apply Kd.V_alloc | apply Kd.V_drewN | apply Kd.V_drew)); exact Kd.V_mono HL206_8.out (fun _ hk => ⟨⟨hk.1.1.1, ⟨hk.1.2, ⟨hk.1.1.2.1, hk.1.1.2.2⟩⟩⟩, hk.2⟩)) hg hat); have n4_ := Asd.mk (Kd.V_afterv (ok := (fun k_ => (w.heap.size ≤ k_) ∧ some k_ ≠ (.slice Ao10 t198.length co10 : Value).ownBlock ∧ k_ ≠ gb202)) (by (with_reducible repeat (first | apply Kd.V_alloc | apply Kd.V_drewN | apply Kd.V_drew)); exact HO212.out) hg hat); have n5_ := Asd.mk (hb); have n6_ := Asd.mk (ho); clear HO_4; clear BK202; clear HL204_8; clear HL206_8; clear HO212; clear HB; clear HO215; clear HO_203008; have HO_4 := n0_; have BK202 := n1_; have HL204_8 := n2_; have HL206_8 := n3_; have HO212 := n4_; have HB := n5_; have HO218 := n6_; clear n0_ n1_ n2_ n3_ n4_ n5_ n6_; clear ho hb hg hat; have q37 : (x9_2 : Int) ≤ ((x4_1.length : Int) : Int) := of_decide_eq_true (by first | (with_reducible assumption) | assumption); obtain ⟨i037, hi037, _, hsz37, _⟩ := info_parts info26; have hroom37 : x4_1.length ≤ co30 := (Kd.N_reads' HO_4.out).2.1; have hC37 : Kd.F k26 _ _ (some ad204) x4_1.length x4_1 := (Kd.V_at (base := w.heap.size) (Kd.N_V HO_4.out)).2.2; have q037 : (0 : Int) ≤ (x9_2 : Int) := of_decide_eq_true (by first | (with_reducible assumption) | assumption); have hcut37 := cut_from (P := Tryd.prog) 24 26 .i64 Tryd.underlying24 hi037 9 hsz37 (some ad204) x4_1.length co30 x9_2 q037 q37; have hr37 := Kd.F_cut (m := (x9_2 : Int).toNat) (c := co30) hC37 (by omega) hroom37; obtain ⟨A37, hA37⟩ : ∃ A1, A1 = (if co30 = (x9_2 : Int).toNat then (some ad204) else ((some ad204) : Option Addr).map (·.add ((x9_2 : Int).toNat * 9))) := ⟨_, rfl⟩; obtain ⟨c37, hc37⟩ : ∃ c1, c1 = co30 - (x9_2 : Int).toNat := ⟨_, rfl⟩; have hy37 : y219.length = x4_1.length - (x9_2 : Int).toNat := (by rw [Ny219.out, List.length_drop] <;> omega); rw [show (x4_1).drop (x9_2 : Int).toNat = y219 from Ny219.out.symm] at hr37; replace hr37 : Kd.F k26 _ _ A37 y219.length y219 := (by rw [hA37]; exact hr37); rw [← hy37, ← hA37, ← hc37] at hcut37; have HO223 := Asd.mk (show Kd.V k26 26 _ w.heap.size _ (.slice A37 y219.length c37) y219 from Kd.V_mk (by rw [hy37, hc37]; exact Nat.sub_le_sub_right hroom37 _) hr37); have HC223 := Asd.mk (show y219.length ≤ c37 from by rw [hy37, hc37]; exact Nat.sub_le_sub_right hroom37 _); clear hr37 hC37 hroom37 hi037 hsz37 hc37; have KY37 := Asd.mk hy37; have KA37 := Asd.mk hA37; clear hy37 hA37; replace q37 := eq_true q37) | ((with_reducible refine gate_builtin (b := .append) (xs := #[.tmp 66, .tmp 69]) rfl ?_); at_builtin; refine Kd.N_append_rows k26 (w0 := w) w.heap.size rfl (.tmp 66) (.tmp 69) 24 26 (.agg #[(.int .i64 0), (.int .i64 0), (.int .i64 0), (.string ⟨#[]⟩), (.int .i64 0), (.int .i64 0), (.int .i64 0), (.string ⟨#[]⟩), (.slice none 0 0)]) 104 rfl Tryd.underlying24 info26 rfl (by decide) (by omega) v217 y216 y219 _ _ _ (fun k_ => (w.heap.size ≤ k_) ∧ k_ ≠ gb202) (fun k_ => ((fun k_ => (w.heap.size ≤ k_) ∧ k_ ≠ gb202)) k_ ∧ some k_ ≠ (v217 : Value).ownBlock) rfl rfl ?aO ?aR (fun _ hk => hk) ?aF ?aB ?aS ?aL ?_; (case aR => exact (by skip; exact Kd.V_F (Kd.V_mono (ok' := (fun k_ => ((fun k_ => (w.heap.size ≤ k_) ∧ k_ ≠ gb202)) k_ ∧ some k_ ≠ (v217 : Value).ownBlock)) (HO223.out) (fun k_ hk => ⟨⟨hk.1.1, hk.1.2.2⟩, hk.2⟩)))); (case aB => exact (by repeat (first | (with_reducible first | exact HB.out | apply blA | apply pbN | apply blD | refine blS ?_ GE202.out) | exact HB.out))); (case aF => exact (fun k_ hk => ⟨(Nat.le_trans (below_size (by repeat (first | (with_reducible first | exact HB.out | apply blA | apply pbN | apply blD | refine blS ?_ GE202.out) | exact HB.out))) hk), Kd.freshB (g := gb202) (o := .cells #[.int .i64 t190, .int .i64 t191, .int .i64 t192, .string t193, .int .i64 t194, .int .i64 t195, .int .i64 t196, .string t197, .slice Ao10 t198.length co10] 26 (0, 0)) (by (with_reducible repeat (first | refine bkN ?_ _ | refine bkD ?_ | refine bkA ?_ _)); exact BK202.out) k_ hk⟩)); (case aO => exact (by (with_reducible repeat (first | apply Kd.N_alloc | apply Kd.N_drewN | apply Kd.N_drew)); exact HO218.out)); (case aS => exact (below_size (by repeat (first | (with_reducible first | exact HB.out | apply blA | apply pbN | apply blD | refine blS ?_ GE202.out) | exact HB.out)))); (case aL => have := LMc29.out; omega); intro v225 w38 ho hb hg hat; rw [← Ny224.out] at ho; have n0_ := Asd.mk (Kd.N_afterv (ok := (fun k_ => (w.heap.size ≤ k_) ∧ k_ ≠ gb202)) (by (with_reducible repeat (first | apply Kd.N_alloc | apply Kd.N_drewN | apply Kd.N_drew)); exact Kd.N_mono HO_4.out (fun _ hk => ⟨⟨hk.1.1, hk.1.2.2⟩, hk.2⟩)) hg hat); have n1_ := Asd.mk (blk_grown (g := gb202) (o := .cells #[.int .i64 t190, .int .i64 t191, .int .i64 t192, .string t193, .int .i64 t194, .int .i64 t195, .int .i64 t196, .string t197, .slice Ao10 t198.length co10] 26 (0, 0)) (by (with_reducible repeat (first | refine bkN ?_ _ | refine bkD ?_ | refine bkA ?_ _)); exact BK202.out) hg (Kd.N_away HO218.out (fun _ hk => hk.2))); have n2_ := Asd.mk (Kd.V_afterv (ok := (fun k_ => (w.heap.size ≤ k_) ∧ some k_ ≠ (.slice (some ad204) x4_1.length co30 : Value).ownBlock ∧ k_ ≠ gb202)) (by (with_reducible repeat (first | apply Kd.V_alloc | apply Kd.V_drewN | apply Kd.V_drew)); exact Kd.V_mono HL204_8.out (fun _ hk => ⟨⟨hk.1.1, ⟨hk.1.2.1, hk.1.2.2.2⟩⟩, hk.2⟩)) hg hat); have n3_ := Asd.mk (Kd.V_afterv (ok := (fun k_ => (w.heap.size ≤ k_) ∧ some k_ ≠ (.slice (some ad204) x4_1.length co30 : Value).ownBlock ∧ k_ ≠ gb202)) (by (with_reducible repeat (first | apply Kd.V_alloc | apply Kd.V_drewN | apply Kd.V_drew)); exact Kd.V_mono HL206_8.out (fun _ hk => ⟨⟨hk.1.1, ⟨hk.1.2.1, hk.1.2.2.2⟩⟩, hk.2⟩)) hg hat); have n4_ := Asd.mk (Kd.V_afterv (ok := (fun k_ => (w.heap.size ≤ k_) ∧ k_ ≠ gb202)) (by (with_reducible repeat (first | apply Kd.V_alloc | apply Kd.V_drewN | apply Kd.V_drew)); exact Kd.V_mono HO212.out (fun _ hk => ⟨⟨hk.1.1, hk.1.2.2⟩, hk.2⟩)) hg hat); have n5_ := Asd.mk (Kd.V_afterv (ok := (fun k_ => (w.heap.size ≤ k_) ∧ k_ ≠ gb202)) (by (with_reducible repeat (first | apply Kd.V_alloc | apply Kd.V_drewN | apply Kd.V_drew)); exact Kd.V_mono HO223.out (fun _ hk => ⟨⟨hk.1.1, hk.1.2.2⟩, hk.2⟩)) hg hat); have n6_ := Asd.mk (hb); have n7_ := Asd.mk (ho); clear HO_4; clear BK202; clear HL204_8; clear HL206_8; clear HO212; clear HO223; clear HB; clear HO218; have HO_4 := n0_; have BK202 := n1_; have HL204_8 := n2_; have HL206_8 := n3_; have HO212 := n4_; have HO223 := n5_; have HB := n6_; have HO226 := n7_; clear n0_ n1_ n2_ n3_ n4_ n5_ n6_ n7_; clear ho hb hg hat))
                go_roundg k2
                case measure => have := HK1.out; have := HK2.out; omega
                case rel => exact ⟨(y224), (wrap64 (x5_1 + 1)), (by first | rfl | (simp; done) | (simp [*]; done)), H', ⟨by have := HK1.out; have := HK2.out; omega⟩, ⟨by (with_reducible repeat (first | apply Kd.N_alloc | apply Kd.N_drewN | apply Kd.N_drew)); exact Kd.N_mono HO226.out (fun _ hk => hk.1)⟩, ⟨by repeat (first | (with_reducible first | exact HB.out | apply blA | apply pbN | apply blD | refine blS ?_ GE202.out) | exact HB.out)⟩⟩
               ·rw [if_neg c29] at H
                exact absurd H (by simp)
              ·rw [if_neg c26] at H
               exact absurd H (by simp)
             ·rw [if_neg c25] at H
              exact absurd H (by simp)
            ·rw [if_neg c24] at H
             exact absurd H (by simp)
         ·rw [if_neg c13] at H
          exact absurd H (by simp)
        ·rw [if_neg c12] at H
         have c12b0 : decide (x9_2 < (x4_1.length : Int)) = false := decide_eq_false c12
         clear c12
         by_cases c39 : 0 ≤ x9_2
         ·rw [if_pos c39] at H
          have c39b0 := eq_true c39
          have c39b1 : decide (0 ≤ x9_2) = true := decide_eq_true c39
          clear c39
          by_cases c40 : x9_2 ≤ (x4_1.length : Int)
          ·rw [if_pos c40] at H
           have c40b0 := eq_true c40
           have c40b1 : decide (x9_2 ≤ (x4_1.length : Int)) = true := decide_eq_true c40
           clear c40
           obtain ⟨y227, hy227⟩ : ∃ y_ : List (S26), y_ = (x4_1.take (x9_2 : Int).toNat) := ⟨_, rfl⟩
           replace H : (if ([] : List (S26)).length + y227.length < 1353245080339 then ((some (([] : List (S26)) ++ y227 : List (S26))).bind fun y232 => (if y232.length < 1353245080339 then ((some (y232 ++ [(⟨t190, (⟨t191, t192, t193⟩ : S23), t194, t195, t196, t197, t198⟩ : S26)] : List (S26))).bind fun y235 => ((some (x4_1.drop (x9_2 : Int).toNat : List (S26))).bind fun y238 => (if y235.length + y238.length < 1353245080339 then (q12_Conds.l0 k2 l0 (y235 ++ y238) (wrap64 (x5_1 + 1))) else (none)))) else (none))) else (none)) = some (r1, r2) := by first | (rw [hy227]; with_reducible exact H) | (have H2_ := (Option.bind_some _ _).symm.trans H; rw [hy227]; with_reducible exact H2_) | (have H2_ := (Option.bind_some _ _).symm.trans H; with_reducible exact H2_) | with_reducible exact H | (rw [hy227]; exact H) | exact H
           have Ny227 := Asd.mk hy227
           clear hy227
           by_cases c41 : ([] : List (S26)).length + y227.length < 1353245080339
           ·rw [if_pos c41] at H
            have LMc41 := Asd.mk c41
            clear c41
            obtain ⟨y232, hy232⟩ : ∃ y_ : List (S26), y_ = (([] : List (S26)) ++ y227) := ⟨_, rfl⟩
            replace H : (if y232.length < 1353245080339 then ((some (y232 ++ [(⟨t190, (⟨t191, t192, t193⟩ : S23), t194, t195, t196, t197, t198⟩ : S26)] : List (S26))).bind fun y235 => ((some (x4_1.drop (x9_2 : Int).toNat : List (S26))).bind fun y238 => (if y235.length + y238.length < 1353245080339 then (q12_Conds.l0 k2 l0 (y235 ++ y238) (wrap64 (x5_1 + 1))) else (none)))) else (none)) = some (r1, r2) := by first | (rw [hy232]; with_reducible exact H) | (have H2_ := (Option.bind_some _ _).symm.trans H; rw [hy232]; with_reducible exact H2_) | (have H2_ := (Option.bind_some _ _).symm.trans H; with_reducible exact H2_) | with_reducible exact H | (rw [hy232]; exact H) | exact H
            have Ny232 := Asd.mk hy232
            clear hy232
            by_cases c42 : y232.length < 1353245080339
            ·rw [if_pos c42] at H
             have LMc42 := Asd.mk c42
             clear c42
             obtain ⟨y235, hy235⟩ : ∃ y_ : List (S26), y_ = (y232 ++ [(⟨t190, (⟨t191, t192, t193⟩ : S23), t194, t195, t196, t197, t198⟩ : S26)]) := ⟨_, rfl⟩
             replace H : ((some (x4_1.drop (x9_2 : Int).toNat : List (S26))).bind fun y238 => (if y235.length + y238.length < 1353245080339 then (q12_Conds.l0 k2 l0 (y235 ++ y238) (wrap64 (x5_1 + 1))) else (none))) = some (r1, r2) := by first | (rw [hy235]; with_reducible exact H) | (have H2_ := (Option.bind_some _ _).symm.trans H; rw [hy235]; with_reducible exact H2_) | (have H2_ := (Option.bind_some _ _).symm.trans H; with_reducible exact H2_) | with_reducible exact H | (rw [hy235]; exact H) | exact H
             have Ny235 := Asd.mk hy235
             clear hy235
             have c43b0 := eq_true (of_decide_eq_true (by first | (with_reducible assumption) | assumption) : 0 ≤ x9_2)
             have c44b0 := eq_true (of_decide_eq_true (by first | (with_reducible assumption) | assumption) : x9_2 ≤ (x4_1.length : Int))
             obtain ⟨y238, hy238⟩ : ∃ y_ : List (S26), y_ = (x4_1.drop (x9_2 : Int).toNat) := ⟨_, rfl⟩
             replace H : (if y235.length + y238.length < 1353245080339 then (q12_Conds.l0 k2 l0 (y235 ++ y238) (wrap64 (x5_1 + 1))) else (none)) = some (r1, r2) := by first | (rw [hy238]; with_reducible exact H) | (have H2_ := (Option.bind_some _ _).symm.trans H; rw [hy238]; with_reducible exact H2_) | (have H2_ := (Option.bind_some _ _).symm.trans H; with_reducible exact H2_) | with_reducible exact H | (rw [hy238]; exact H) | exact H
             have Ny238 := Asd.mk hy238
             clear hy238
             by_cases c45 : y235.length + y238.length < 1353245080339
             ·rw [if_pos c45] at H
              have LMc45 := Asd.mk c45
              clear c45
              obtain ⟨y243, hy243⟩ : ∃ y_ : List (S26), y_ = (y235 ++ y238) := ⟨_, rfl⟩
              replace H : (q12_Conds.l0 k2 l0 y243 (wrap64 (x5_1 + 1))) = some (r1, r2) := by first | (rw [hy243]; with_reducible exact H) | (have H2_ := (Option.bind_some _ _).symm.trans H; rw [hy243]; with_reducible exact H2_) | (have H2_ := (Option.bind_some _ _).symm.trans H; with_reducible exact H2_) | with_reducible exact H | (rw [hy243]; exact H) | exact H
              have Ny243 := Asd.mk hy243
              clear hy243
              have H' := Asd.mk H
              clear H
              obtain ⟨Ao46, co46, eo46⟩ := Kd.N_slice HO_4.out
              subst eo46
              have q47 : (x9_2 : Int) ≤ ((x4_1.length : Int) : Int) := of_decide_eq_true (by first | (with_reducible assumption) | assumption)
              obtain ⟨i047, hi047, _, hsz47, _⟩ := info_parts info26
              have hroom47 : x4_1.length ≤ co46 := (Kd.N_reads' HO_4.out).2.1
              have hC47 : Kd.F k26 _ _ Ao46 x4_1.length x4_1 := (Kd.V_at (base := w.heap.size) (Kd.N_V HO_4.out)).2.2
              have hcut47 := cut_to (P := Tryd.prog) 24 26 .i64 Tryd.underlying24 hi047 Ao46 x4_1.length co46 x9_2 (of_decide_eq_true (by first | (with_reducible assumption) | assumption)) q47 hroom47
              have hr47 := Kd.F_take (m := (x9_2 : Int).toNat) hC47 (by omega)
              have hy47 : y227.length = (x9_2 : Int).toNat := (by rw [Ny227.out, List.length_take]; omega)
              rw [← Ny227.out] at hr47
              rw [← hy47] at hcut47
              have HO231 := Asd.mk (show Kd.V k26 26 _ w.heap.size _ (.slice Ao46 y227.length co46) y227 from Kd.V_mk (by omega) hr47)
              have HC231 := Asd.mk (show y227.length ≤ co46 from by omega)
              clear hr47 hC47 hroom47 hi047 hsz47
              have KY47 := Asd.mk hy47
              clear hy47
              replace q47 := eq_true q47
              go_wp2_with (first | ((with_reducible refine gate_builtin (b := .append) (xs := #[.tmp 57, .tmp 60]) rfl ?_); at_builtin; refine Kd.N_append_rows k26 (w0 := w) w.heap.size rfl (.tmp 57) (.tmp 60) 24 26 (.agg #[(.int .i64 0), (.int .i64 0), (.int .i64 0), (.string ⟨#[]⟩), (.int .i64 0), (.int .i64 0), (.int .i64 0), (.string ⟨#[]⟩), (.slice none 0 0)]) 104 rfl Tryd.underlying24 info26 rfl (by decide) (by omega) (.slice none 0 0) ([] : List (S26)) y227 _ _ _ (fun k_ => (w.heap.size ≤ k_) ∧ some k_ ≠ (.slice Ao10 t198.length co10 : Value).ownBlock ∧ k_ ≠ gb202) (fun k_ => ((fun k_ => (w.heap.size ≤ k_) ∧ some k_ ≠ (.slice Ao10 t198.length co10 : Value).ownBlock ∧ k_ ≠ gb202)) k_ ∧ some k_ ≠ (.slice none 0 0 : Value).ownBlock) rfl rfl ?aO ?aR (fun _ hk => hk) ?aF ?aB ?aS ?aL ?_; (case aR => exact (by skip; exact Kd.V_F (Kd.V_mono (ok' := (fun k_ => ((fun k_ => (w.heap.size ≤ k_) ∧ some k_ ≠ (.slice Ao10 t198.length co10 : Value).ownBlock ∧ k_ ≠ gb202)) k_ ∧ some k_ ≠ (.slice none 0 0 : Value).ownBlock)) (HO231.out) (fun k_ hk => ⟨⟨hk.1, ⟨hk.2.1, hk.2.2⟩⟩, (by simp [Value.ownBlock])⟩)))); (case aB => exact (by repeat (first | (with_reducible first | exact HB.out | apply blA | apply pbN | apply blD | refine blS ?_ GE202.out) | exact HB.out))); (case aF => exact (fun k_ hk => ⟨(Nat.le_trans (below_size (by repeat (first | (with_reducible first | exact HB.out | apply blA | apply pbN | apply blD | refine blS ?_ GE202.out) | exact HB.out))) hk), Kd.fresh' (Kd.N_lt (by (with_reducible repeat (first | apply Kd.N_alloc | apply Kd.N_drewN | apply Kd.N_drew)); exact HO_203008.out)) k_ hk, Kd.freshB (g := gb202) (o := .cells #[.int .i64 t190, .int .i64 t191, .int .i64 t192, .string t193, .int .i64 t194, .int .i64 t195, .int .i64 t196, .string t197, .slice Ao10 t198.length co10] 26 (0, 0)) (by (with_reducible repeat (first | refine bkN ?_ _ | refine bkD ?_ | refine bkA ?_ _)); exact BK202.out) k_ hk⟩)); (case aO => exact ((Kd.N_nil _ _ _ _ (fun k_ => (w.heap.size ≤ k_) ∧ some k_ ≠ (.slice Ao10 t198.length co10 : Value).ownBlock ∧ k_ ≠ gb202)))); (case aS => exact (below_size (by repeat (first | (with_reducible first | exact HB.out | apply blA | apply pbN | apply blD | refine blS ?_ GE202.out) | exact HB.out)))); (case aL => have := LMc41.out; omega); intro v233 w48 ho hb hg hat; rw [← Ny232.out] at ho; have n0_ := Asd.mk (Kd.N_afterv (Kd.N_apart_nil (by (with_reducible repeat (first | apply Kd.N_alloc | apply Kd.N_drewN | apply Kd.N_drew)); exact HO_4.out)) hg hat); have n1_ := Asd.mk (Kd.N_afterv (Kd.N_apart_nil (by (with_reducible repeat (first | apply Kd.N_alloc | apply Kd.N_drewN | apply Kd.N_drew)); exact HO_203008.out)) hg hat); have n2_ := Asd.mk (blk_grown (g := gb202) (o := .cells #[.int .i64 t190, .int .i64 t191, .int .i64 t192, .string t193, .int .i64 t194, .int .i64 t195, .int .i64 t196, .string t197, .slice Ao10 t198.length co10] 26 (0, 0)) (by (with_reducible repeat (first | refine bkN ?_ _ | refine bkD ?_ | refine bkA ?_ _)); exact BK202.out) hg (by simp [Value.ownBlock])); have n3_ := Asd.mk (Kd.V_afterv (Kd.V_apart_nil (by (with_reducible repeat (first | apply Kd.V_alloc | apply Kd.V_drewN | apply Kd.V_drew)); exact HO231.out)) hg hat); have n4_ := Asd.mk (hb); have n5_ := Asd.mk (ho); clear HO_4; clear HO_203008; clear BK202; clear HO231; clear HB; have HO_4 := n0_; have HO_203008 := n1_; have BK202 := n2_; have HO231 := n3_; have HB := n4_; have HO234 := n5_; clear n0_ n1_ n2_ n3_ n4_ n5_; clear ho hb hg hat; obtain ⟨hcz49_0, hcz49_1, hcz49_2, hcz49_3, hcz49_4, hcz49_5, hcz49_6, hcz49_7, hcz49_8⟩ := bkC9 BK202.out; obtain ⟨hfz49_0, hfz49_1, hfz49_2, hfz49_3, hfz49_4, hfz49_5, hfz49_6, hfz49_7, hfz49_8⟩ := bkF9 BK202.out) | ((with_reducible refine gate_builtin (b := .append) (xs := #[.tmp 62, .tmp 64]) rfl ?_); at_builtin; refine Kd.N_append k26 (w0 := w) w.heap.size rfl (.tmp 62) (.tmp 64) 24 26 (.agg #[(.int .i64 0), (.int .i64 0), (.int .i64 0), (.string ⟨#[]⟩), (.int .i64 0), (.int .i64 0), (.int .i64 0), (.string ⟨#[]⟩), (.slice none 0 0)]) 104 rfl Tryd.underlying24 info26 rfl (by decide) (by omega) v233 y232 (⟨t190, (⟨t191, t192, t193⟩ : S23), t194, t195, t196, t197, t198⟩ : S26) [.int .i64 t190, .int .i64 t191, .int .i64 t192, .string t193, .int .i64 t194, .int .i64 t195, .int .i64 t196, .string t197, .slice Ao10 t198.length co10] (fun k_ => (w.heap.size ≤ k_) ∧ k_ ≠ gb202) (fun k_ => ((fun k_ => (w.heap.size ≤ k_) ∧ k_ ≠ gb202)) k_ ∧ some k_ ≠ (v233 : Value).ownBlock) rfl rfl ?aP (fun _ hk => hk) ?aF ?aO ?aB ?aS ?aL ?_; (case aP => exact (k26_mkF _ _ (⟨t190, (⟨t191, t192, t193⟩ : S23), t194, t195, t196, t197, t198⟩ : S26) (Kd.N_reads' (Kd.N_mono (ok' := (fun k_ => ((fun k_ => (w.heap.size ≤ k_) ∧ k_ ≠ gb202)) k_ ∧ some k_ ≠ (v233 : Value).ownBlock)) (HO_203008.out) (fun k_ hk => ⟨⟨hk.1.1, hk.1.2.2⟩, hk.2⟩))).2.1 (Kd.N_F (Kd.N_mono (ok' := (fun k_ => ((fun k_ => (w.heap.size ≤ k_) ∧ k_ ≠ gb202)) k_ ∧ some k_ ≠ (v233 : Value).ownBlock)) (HO_203008.out) (fun k_ hk => ⟨⟨hk.1.1, hk.1.2.2⟩, hk.2⟩))))); (case aB => exact (by repeat (first | (with_reducible first | exact HB.out | apply blA | apply pbN | apply blD | refine blS ?_ GE202.out) | exact HB.out))); (case aF => exact (fun k_ hk => ⟨(Nat.le_trans (below_size (by repeat (first | (with_reducible first | exact HB.out | apply blA | apply pbN | apply blD | refine blS ?_ GE202.out) | exact HB.out))) hk), Kd.freshB (g := gb202) (o := .cells #[.int .i64 t190, .int .i64 t191, .int .i64 t192, .string t193, .int .i64 t194, .int .i64 t195, .int .i64 t196, .string t197, .slice Ao10 t198.length co10] 26 (0, 0)) (by (with_reducible repeat (first | refine bkN ?_ _ | refine bkD ?_ | refine bkA ?_ _)); exact BK202.out) k_ hk⟩)); (case aO => exact (by (with_reducible repeat (first | apply Kd.N_alloc | apply Kd.N_drewN | apply Kd.N_drew)); exact Kd.N_mono HO234.out (fun _ hk => ⟨hk.1, hk.2.2⟩))); (case aS => exact (below_size (by repeat (first | (with_reducible first | exact HB.out | apply blA | apply pbN | apply blD | refine blS ?_ GE202.out) | exact HB.out)))); (case aL => have := LMc42.out; omega); intro v236 w50 ho hb hg hat; rw [← Ny235.out] at ho; have n0_ := Asd.mk (Kd.N_afterv (ok := (fun k_ => (w.heap.size ≤ k_) ∧ some k_ ≠ (.slice Ao10 t198.length co10 : Value).ownBlock ∧ k_ ≠ gb202)) (by (with_reducible repeat (first | apply Kd.N_alloc | apply Kd.N_drewN | apply Kd.N_drew)); exact HO_4.out) hg hat); have n1_ := Asd.mk (blk_grown (g := gb202) (o := .cells #[.int .i64 t190, .int .i64 t191, .int .i64 t192, .string t193, .int .i64 t194, .int .i64 t195, .int .i64 t196, .string t197, .slice Ao10 t198.length co10] 26 (0, 0)) (by (with_reducible repeat (first | refine bkN ?_ _ | refine bkD ?_ | refine bkA ?_ _)); exact BK202.out) hg (Kd.N_away HO234.out (fun _ hk => hk.2.2))); have n2_ := Asd.mk (Kd.V_afterv (ok := (fun k_ => (w.heap.size ≤ k_) ∧ some k_ ≠ (.slice Ao10 t198.length co10 : Value).ownBlock ∧ k_ ≠ gb202)) (by (with_reducible repeat (first | apply Kd.V_alloc | apply Kd.V_drewN | apply Kd.V_drew)); exact HO231.out) hg hat); have n3_ := Asd.mk (hb); have n4_ := Asd.mk (ho); clear HO_4; clear BK202; clear HO231; clear HB; clear HO234; clear HO_203008; have HO_4 := n0_; have BK202 := n1_; have HO231 := n2_; have HB := n3_; have HO237 := n4_; clear n0_ n1_ n2_ n3_ n4_; clear ho hb hg hat; have q51 : (x9_2 : Int) ≤ ((x4_1.length : Int) : Int) := of_decide_eq_true (by first | (with_reducible assumption) | assumption); obtain ⟨i051, hi051, _, hsz51, _⟩ := info_parts info26; have hroom51 : x4_1.length ≤ co46 := (Kd.N_reads' HO_4.out).2.1; have hC51 : Kd.F k26 _ _ Ao46 x4_1.length x4_1 := (Kd.V_at (base := w.heap.size) (Kd.N_V HO_4.out)).2.2; have q051 : (0 : Int) ≤ (x9_2 : Int) := of_decide_eq_true (by first | (with_reducible assumption) | assumption); have hcut51 := cut_from (P := Tryd.prog) 24 26 .i64 Tryd.underlying24 hi051 9 hsz51 Ao46 x4_1.length co46 x9_2 q051 q51; have hr51 := Kd.F_cut (m := (x9_2 : Int).toNat) (c := co46) hC51 (by omega) hroom51; obtain ⟨A51, hA51⟩ : ∃ A1, A1 = (if co46 = (x9_2 : Int).toNat then Ao46 else (Ao46 : Option Addr).map (·.add ((x9_2 : Int).toNat * 9))) := ⟨_, rfl⟩; obtain ⟨c51, hc51⟩ : ∃ c1, c1 = co46 - (x9_2 : Int).toNat := ⟨_, rfl⟩; have hy51 : y238.length = x4_1.length - (x9_2 : Int).toNat := (by rw [Ny238.out, List.length_drop] <;> omega); rw [show (x4_1).drop (x9_2 : Int).toNat = y238 from Ny238.out.symm] at hr51; replace hr51 : Kd.F k26 _ _ A51 y238.length y238 := (by rw [hA51]; exact hr51); rw [← hy51, ← hA51, ← hc51] at hcut51; have HO242 := Asd.mk (show Kd.V k26 26 _ w.heap.size _ (.slice A51 y238.length c51) y238 from Kd.V_mk (by rw [hy51, hc51]; exact Nat.sub_le_sub_right hroom51 _) hr51); have HC242 := Asd.mk (show y238.length ≤ c51 from by rw [hy51, hc51]; exact Nat.sub_le_sub_right hroom51 _); clear hr51 hC51 hroom51 hi051 hsz51 hc51; have KY51 := Asd.mk hy51; have KA51 := Asd.mk hA51; clear hy51 hA51; replace q51 := eq_true q51) | ((with_reducible refine gate_builtin (b := .append) (xs := #[.tmp 66, .tmp 69]) rfl ?_); at_builtin; refine Kd.N_append_rows k26 (w0 := w) w.heap.size rfl (.tmp 66) (.tmp 69) 24 26 (.agg #[(.int .i64 0), (.int .i64 0), (.int .i64 0), (.string ⟨#[]⟩), (.int .i64 0), (.int .i64 0), (.int .i64 0), (.string ⟨#[]⟩), (.slice none 0 0)]) 104 rfl Tryd.underlying24 info26 rfl (by decide) (by omega) v236 y235 y238 _ _ _ (fun k_ => (w.heap.size ≤ k_) ∧ k_ ≠ gb202) (fun k_ => ((fun k_ => (w.heap.size ≤ k_) ∧ k_ ≠ gb202)) k_ ∧ some k_ ≠ (v236 : Value).ownBlock) rfl rfl ?aO ?aR (fun _ hk => hk) ?aF ?aB ?aS ?aL ?_; (case aR => exact (by skip; exact Kd.V_F (Kd.V_mono (ok' := (fun k_ => ((fun k_ => (w.heap.size ≤ k_) ∧ k_ ≠ gb202)) k_ ∧ some k_ ≠ (v236 : Value).ownBlock)) (HO242.out) (fun k_ hk => ⟨⟨hk.1.1, hk.1.2.2⟩, hk.2⟩)))); (case aB => exact (by repeat (first | (with_reducible first | exact HB.out | apply blA | apply pbN | apply blD | refine blS ?_ GE202.out) | exact HB.out))); (case aF => exact (fun k_ hk => ⟨(Nat.le_trans (below_size (by repeat (first | (with_reducible first | exact HB.out | apply blA | apply pbN | apply blD | refine blS ?_ GE202.out) | exact HB.out))) hk), Kd.freshB (g := gb202) (o := .cells #[.int .i64 t190, .int .i64 t191, .int .i64 t192, .string t193, .int .i64 t194, .int .i64 t195, .int .i64 t196, .string t197, .slice Ao10 t198.length co10] 26 (0, 0)) (by (with_reducible repeat (first | refine bkN ?_ _ | refine bkD ?_ | refine bkA ?_ _)); exact BK202.out) k_ hk⟩)); (case aO => exact (by (with_reducible repeat (first | apply Kd.N_alloc | apply Kd.N_drewN | apply Kd.N_drew)); exact HO237.out)); (case aS => exact (below_size (by repeat (first | (with_reducible first | exact HB.out | apply blA | apply pbN | apply blD | refine blS ?_ GE202.out) | exact HB.out)))); (case aL => have := LMc45.out; omega); intro v244 w52 ho hb hg hat; rw [← Ny243.out] at ho; have n0_ := Asd.mk (Kd.N_afterv (ok := (fun k_ => (w.heap.size ≤ k_) ∧ k_ ≠ gb202)) (by (with_reducible repeat (first | apply Kd.N_alloc | apply Kd.N_drewN | apply Kd.N_drew)); exact Kd.N_mono HO_4.out (fun _ hk => ⟨⟨hk.1.1, hk.1.2.2⟩, hk.2⟩)) hg hat); have n1_ := Asd.mk (blk_grown (g := gb202) (o := .cells #[.int .i64 t190, .int .i64 t191, .int .i64 t192, .string t193, .int .i64 t194, .int .i64 t195, .int .i64 t196, .string t197, .slice Ao10 t198.length co10] 26 (0, 0)) (by (with_reducible repeat (first | refine bkN ?_ _ | refine bkD ?_ | refine bkA ?_ _)); exact BK202.out) hg (Kd.N_away HO237.out (fun _ hk => hk.2))); have n2_ := Asd.mk (Kd.V_afterv (ok := (fun k_ => (w.heap.size ≤ k_) ∧ k_ ≠ gb202)) (by (with_reducible repeat (first | apply Kd.V_alloc | apply Kd.V_drewN | apply Kd.V_drew)); exact Kd.V_mono HO231.out (fun _ hk => ⟨⟨hk.1.1, hk.1.2.2⟩, hk.2⟩)) hg hat); have n3_ := Asd.mk (Kd.V_afterv (ok := (fun k_ => (w.heap.size ≤ k_) ∧ k_ ≠ gb202)) (by (with_reducible repeat (first | apply Kd.V_alloc | apply Kd.V_drewN | apply Kd.V_drew)); exact Kd.V_mono HO242.out (fun _ hk => ⟨⟨hk.1.1, hk.1.2.2⟩, hk.2⟩)) hg hat); have n4_ := Asd.mk (hb); have n5_ := Asd.mk (ho); clear HO_4; clear BK202; clear HO231; clear HO242; clear HB; clear HO237; have HO_4 := n0_; have BK202 := n1_; have HO231 := n2_; have HO242 := n3_; have HB := n4_; have HO245 := n5_; clear n0_ n1_ n2_ n3_ n4_ n5_; clear ho hb hg hat))
              go_roundg k2
              case measure => have := HK1.out; have := HK2.out; omega
              case rel => exact ⟨(y243), (wrap64 (x5_1 + 1)), (by first | rfl | (simp; done) | (simp [*]; done)), H', ⟨by have := HK1.out; have := HK2.out; omega⟩, ⟨by (with_reducible repeat (first | apply Kd.N_alloc | apply Kd.N_drewN | apply Kd.N_drew)); exact Kd.N_mono HO245.out (fun _ hk => hk.1)⟩, ⟨by repeat (first | (with_reducible first | exact HB.out | apply blA | apply pbN | apply blD | refine blS ?_ GE202.out) | exact HB.out)⟩⟩
             ·rw [if_neg c45] at H
              exact absurd H (by simp)
            ·rw [if_neg c42] at H
             exact absurd H (by simp)
           ·rw [if_neg c41] at H
            exact absurd H (by simp)
          ·rw [if_neg c40] at H
           exact absurd H (by simp)
         ·rw [if_neg c39] at H
          exact absurd H (by simp)
     ·replace c5 := Bool.eq_false_iff.mpr c5
      subst c5
      have H1 : (some (([] : List (S26)), false)) = some (r1, r2) := by rw [if_neg (show ¬ (false = true) by decide)] at H; exact H
      clear H
      have H := H1
      clear H1
      simp only [Option.some.injEq, Prod.mk.injEq] at H
      obtain ⟨rfl, rfl⟩ := H
      have p189 : 0 ≤ (x5_1 : Int) := of_decide_eq_true (by first | (with_reducible assumption) | assumption)
      have q189 : x5_1 < (l0.length : Int) := of_decide_eq_true (by first | (with_reducible assumption) | assumption)
      obtain ⟨ad189, A189_8, c189_8, e189, hx189_0, hx189_1, hx189_2, hx189_3, hx189_4, hx189_5, hx189_6, hx189_7, hx189_8, hl189_8, hi189_8⟩ := at_T26 HR0.out x5_1 p189 q189
      cases e189
      replace hx189_0 := (HB.out.cell (World.block_lt_of_cell? w _ hx189_0)).trans hx189_0
      replace hx189_1 := (HB.out.cell (World.block_lt_of_cell? w _ hx189_1)).trans hx189_1
      replace hx189_2 := (HB.out.cell (World.block_lt_of_cell? w _ hx189_2)).trans hx189_2
      replace hx189_3 := (HB.out.cell (World.block_lt_of_cell? w _ hx189_3)).trans hx189_3
      replace hx189_4 := (HB.out.cell (World.block_lt_of_cell? w _ hx189_4)).trans hx189_4
      replace hx189_5 := (HB.out.cell (World.block_lt_of_cell? w _ hx189_5)).trans hx189_5
      replace hx189_6 := (HB.out.cell (World.block_lt_of_cell? w _ hx189_6)).trans hx189_6
      replace hx189_7 := (HB.out.cell (World.block_lt_of_cell? w _ hx189_7)).trans hx189_7
      replace hx189_8 := (HB.out.cell (World.block_lt_of_cell? w _ hx189_8)).trans hx189_8
      have HR189_8 := Asd.mk hi189_8
      have HC189_8 := Asd.mk hl189_8
      clear hi189_8 hl189_8
      replace p189 := eq_true p189
      replace q189 := eq_true q189
      go_wp2_with (first | ((with_reducible refine gate_callee (f := 11) rfl ?_); refine goesL_ (some 22) rfl rfl Tryd.func11 (by kernel_rfl) rfl #[.agg #[.int .i64 ((rd_T26 l0 x5_1).f0), .int .i64 ((rd_T26 l0 x5_1).f1.f0), .int .i64 ((rd_T26 l0 x5_1).f1.f1), .string ((rd_T26 l0 x5_1).f1.f2), .int .i64 ((rd_T26 l0 x5_1).f2), .int .i64 ((rd_T26 l0 x5_1).f3), .int .i64 ((rd_T26 l0 x5_1).f4), .string ((rd_T26 l0 x5_1).f5), .slice A189_8 ((rd_T26 l0 x5_1).f6).length c189_8]] rfl (by (try simp only [List.map_toArray, List.map_cons, List.map_nil]); first | done | rfl | (simp only [List.length_drop, List.length_take]; rfl)) ?_; (with_reducible refine (q12_Normal.calls k1 ((rd_T26 l0 x5_1).f0) ((rd_T26 l0 x5_1).f1.f0) ((rd_T26 l0 x5_1).f1.f1) ((rd_T26 l0 x5_1).f1.f2) ((rd_T26 l0 x5_1).f2) ((rd_T26 l0 x5_1).f3) ((rd_T26 l0 x5_1).f4) ((rd_T26 l0 x5_1).f5) _ _ ((rd_T26 l0 x5_1).f6) t190 t191 t192 t193 t194 t195 t196 t197 t198 false _ ?side1 ?side2 A4.out).mono ?_); (case side1 => repeat (first | exact (Kd.C_below HR189_8.out HB.out) | (with_reducible refine Kd.C_alloc ?_ _) | (with_reducible refine Kd.C_drewN ?_ _) | (with_reducible refine Kd.C_drew ?_))); (case side2 => exact HC189_8.out); rintro e w53 ⟨v199, rfl, ho0, hb⟩; refine ⟨_, rfl, ?_⟩; have n0_ := Asd.mk (Kd.N_elder' (by (with_reducible repeat (first | apply Kd.N_alloc | apply Kd.N_drewN | apply Kd.N_drew)); exact HO_4.out) (Kd.N_base ho0) hb); have n1_ := Asd.mk (Kd.N_lower (Kd.N_mono (ok' := fun k_ => (w.heap.size ≤ k_) ∧ some k_ ≠ (u4 : Value).ownBlock) ho0 (fun k_ hk_ => ⟨(Nat.le_trans (below_size (by repeat (first | (with_reducible first | exact HB.out | apply blA | apply pbN | apply blD) | exact HB.out))) hk_), (Kd.fresh' (Kd.N_lt (by (with_reducible repeat (first | apply Kd.N_alloc | apply Kd.N_drewN | apply Kd.N_drew)); exact HO_4.out)) k_ hk_)⟩)) (below_size (by repeat (first | (with_reducible first | exact HB.out | apply blA | apply pbN | apply blD) | exact HB.out)))); have n2_ := Asd.mk (below_step (by repeat (first | (with_reducible first | exact HB.out | apply blA | apply pbN | apply blD) | exact HB.out)) hb); clear HO_4; clear HB; have HO_4 := n0_; have HO200 := n1_; have HB := n2_; clear n0_ n1_ n2_; (try clear hb); (try clear hb2); (try clear hk); (try clear hi); (try clear ho0)) | ((with_reducible refine gate_dst (N := 6) rfl ?_); refine box_event rfl (N := 6) rfl (cs := #[.int .i64 0, .int .i64 0, .int .i64 0, .string (⟨#[]⟩ : ByteArray), .int .i64 0, .int .i64 0, .int .i64 0, .string (⟨#[]⟩ : ByteArray), .slice none 0 0]) (t := 26) (by first | (go_simp; done) | (go_simp; rfl)) ?_; intro gb202 hg w54 hbox hb; have n0_ := Asd.mk (Kd.N_below (Kd.N_elderB (by (with_reducible repeat (first | apply Kd.N_alloc | apply Kd.N_drewN | apply Kd.N_drew)); exact HO_4.out) gb202 (Nat.le_of_eq hg.symm)) hb); have n1_ := Asd.mk (Kd.N_below (Kd.N_elderB (by (with_reducible repeat (first | apply Kd.N_alloc | apply Kd.N_drewN | apply Kd.N_drew)); exact HO200.out) gb202 (Nat.le_of_eq hg.symm)) hb); have n2_ := Asd.mk (below_step (by repeat (first | (with_reducible first | exact HB.out | apply blA | apply pbN | apply blD) | exact HB.out)) hb); have n3_ := Asd.mk (hbox); have n4_ := Asd.mk ((by rw [hg]; exact (below_size (by repeat (first | (with_reducible first | exact HB.out | apply blA | apply pbN | apply blD) | exact HB.out))) : w.heap.size ≤ gb202)); have n5_ := Asd.mk ((by rw [hg]; exact (below_size (by repeat (first | (with_reducible first | exact HB.out | apply blA | apply pbN | apply blD) | exact HB.out))) : w.heap.size ≤ gb202)); clear HO_4; clear HO200; clear HB; have HO_4 := n0_; have HO200 := n1_; have HB := n2_; have BK202 := n3_; have GW202 := n4_; have GE202 := n5_; clear n0_ n1_ n2_ n3_ n4_ n5_; clear hb hbox hg; obtain ⟨hcz55_0, hcz55_1, hcz55_2, hcz55_3, hcz55_4, hcz55_5, hcz55_6, hcz55_7, hcz55_8⟩ := bkC9 BK202.out; obtain ⟨hfz55_0, hfz55_1, hfz55_2, hfz55_3, hfz55_4, hfz55_5, hfz55_6, hfz55_7, hfz55_8⟩ := bkF9 BK202.out; obtain ⟨Ao56, co56, eo56⟩ := Kd.N_slice HO200.out; subst eo56))
      go_ret2
      exact ⟨_, by first | rfl | (simp [errW_none, errW_some] <;> rfl) | (simp [*, errW_none, errW_some] <;> rfl), by first | exact Kd.R_nil _ _ _ _ _ | exact Kd.N_nil _ _ _ _ _ | exact Kd.V_nil _ _ _ _ _ | exact Kd.Q_nil _ _ _ _ _ | exact Kd.S_nil _ _ _ _ _, by repeat (first | (with_reducible first | exact HB.out | apply blA | apply pbN | apply blD | refine blS ?_ GE202.out) | exact HB.out)⟩
    ·rw [if_neg c3] at H
     exact absurd H (by simp)
   ·rw [if_neg c2] at H
    have c2b0 : decide (x5_1 < (l0.length : Int)) = false := decide_eq_false c2
    clear c2
    simp only [Option.some.injEq, Prod.mk.injEq] at H
    obtain ⟨rfl, rfl⟩ := H
    go_wp2
    go_ret2
    exact ⟨_, by first | rfl | (simp [errW_none, errW_some] <;> rfl) | (simp [*, errW_none, errW_some] <;> rfl), by (with_reducible repeat (first | apply Kd.N_alloc | apply Kd.N_drewN | apply Kd.N_drew)); exact HO_4.out, by repeat (first | (with_reducible first | exact HB.out | apply blA | apply pbN | apply blD) | exact HB.out)⟩
end Go.Proofs.YtpdhoghkoakojaaDoor.E
namespace Go.Proofs.YtpdhoghkoakojaaDoor.E
set_option linter.unusedSimpArgs false
set_option linter.unusedVariables false
open Go.RowKit Go.Proofs.YtpdhoghkoakojaaDoorW.PrintWords Go.Proofs.YtpdhoghkoakojaaDoorW.PrintLast Go.Proofs.YtpdhoghkoakojaaDoorW.PrintMore
def unflat (t : Int × Int × Int × ByteArray × Int × Int × Int × ByteArray × List Ex) : Ex := ⟨t.1, ⟨t.2.1, t.2.2.1, t.2.2.2.1⟩, t.2.2.2.2.1, t.2.2.2.2.2.1, t.2.2.2.2.2.2.1, t.2.2.2.2.2.2.2.1, t.2.2.2.2.2.2.2.2⟩
theorem unflat_flat (e : Ex) : unflat (flat e) = e := by cases e; rfl
theorem eta_ex (e : Ex) : (⟨e.f0, ⟨e.f1.f0, e.f1.f1, e.f1.f2⟩, e.f2, e.f3, e.f4, e.f5, e.f6⟩ : Ex) = e := by cases e; rfl
theorem normal_ev (e : Ex) (hr : rightB e = true) (hg : rngF e = true) : Ev (fun k => q12_normal.f k e.f0 e.f1.f0 e.f1.f1 e.f1.f2 e.f2 e.f3 e.f4 e.f5 e.f6) (flat (normF e)) :=
  Ev.const 0 (fun k => by unfold q12_normal.f; rw [eta_ex, if_pos ⟨hr, hg⟩])
def flatB (e : Ex) (b : Bool) : Int × Int × Int × ByteArray × Int × Int × Int × ByteArray × List Ex × Bool := (e.f0, e.f1.f0, e.f1.f1, e.f1.f2, e.f2, e.f3, e.f4, e.f5, e.f6, b)
def refN (e : Ex) : Int × Int × Int × ByteArray × Int × Int × Int × ByteArray × List Ex × Bool := if rightB e = true then flatB (normF e) true else flatB zeroX false
theorem refNormal_ev (e : Ex) (hg : rngF e = true) : Ev (fun k => q12_Normal.f k e.f0 e.f1.f0 e.f1.f1 e.f1.f2 e.f2 e.f3 e.f4 e.f5 e.f6) (refN e) := by
  unfold q12_Normal.f refN
  refine Ev.bind (refRight_ev e) ?_
  by_cases hr : rightB e = true
  · simp only [if_pos hr]
    exact Ev.bind (normal_ev e hr hg) (Ev.now _)
  · simp only [if_neg hr]
    exact Ev.now _
def cutN (x : Ex) : List Ex → Nat
  | [] => 0
  | y :: l => if tl y < tl x then cutN x l + 1 else 0
theorem cutN_le (x : Ex) : ∀ l, cutN x l ≤ l.length
  | [] => Nat.le_refl _
  | y :: l => by
    have := cutN_le x l
    rw [cutN]; split <;> simp only [List.length_cons] <;> omega
theorem insT_cut (x : Ex) : ∀ l : List Ex, insT x l = match l.drop (cutN x l) with
    | [] => l.take (cutN x l) ++ [x]
    | y :: r => if tl y = tl x then l else l.take (cutN x l) ++ x :: y :: r
  | [] => rfl
  | y :: l => by
    rw [insT, cutN]
    by_cases h : tl y < tl x
    · rw [if_pos h, if_pos h, insT_cut x l, List.drop_succ_cons, List.take_succ_cons]
      cases hd : l.drop (cutN x l) with
      | nil => rfl
      | cons z r =>
        simp only []
        by_cases h2 : tl z = tl x
        · rw [if_pos h2, if_pos h2]
        · rw [if_neg h2, if_neg h2]; rfl
    · rw [if_neg h, if_neg h]
      by_cases h2 : tl y = tl x
      · rw [if_pos h2]; simp [h2]
      · rw [if_neg h2]; simp [h2]
theorem text_tl {e : Ex} (h : rightB e = true) : (textS e).toList = tl e := by unfold textS; rw [ByteArray.toList_eq, tl_right h]
theorem insT_mem (x : Ex) : ∀ (l : List Ex) (z : Ex), z ∈ insT x l → z = x ∨ z ∈ l
  | [], z, h => by simpa [insT] using h
  | y :: l, z, h => by
    rw [insT] at h
    split at h
    · rcases List.mem_cons.1 h with e | h
      · exact .inr (by rw [e]; exact .head _)
      · rcases insT_mem x l z h with e | h
        · exact .inl e
        · exact .inr (.tail _ h)
    · split at h
      · exact .inr h
      · rcases List.mem_cons.1 h with e | h
        · exact .inl e
        · exact .inr h
def refC (xs out : List Ex) : List Ex × Bool := if xs.all rightB = true then (condsA xs out, true) else ([], false)
theorem refC_nil (out : List Ex) : refC [] out = (out, true) := rfl
theorem refC_cons (x : Ex) (xs out : List Ex) : refC (x :: xs) out = if rightB x = true then refC xs (insT (normF x) out) else ([], false) := by
  unfold refC
  rw [List.all_cons]
  cases rightB x <;> rfl
theorem condsL1_ev (L : List Ex) (i : Int) (x : Ex) (hx : rightB x = true) (out : List Ex) (hout : ∀ y ∈ out, rightB y = true ∧ rngF y = true) (hlen : out.length + 2 < 1353245080339) (R : List Ex × Bool)
    (hR : Ev (fun k => q12_Conds.l0 k L (insT x out) (wrap64 (i + 1))) R) : ∀ (l : List Ex) (j : Nat), out.drop j = l → j + cutN x l = cutN x out → Ev (fun k => q12_Conds.l1 k L out i (textS x) (j : Int) x.f0 x.f1.f0 x.f1.f1 x.f1.f2 x.f2 x.f3 x.f4 x.f5 x.f6) R
  | [], j, hj, hc => by
    have hl : out.length ≤ j := List.drop_eq_nil_iff.1 hj
    have hcl := cutN_le x out
    rw [cutN] at hc
    have he : insT x out = out ++ [x] := by
      rw [insT_cut, ← hc]
      simp only [Nat.add_zero, hj]
      rw [List.take_of_length_le hl]
    rw [he] at hR
    refine Ev.steps 1 (fun k => ?_) hR
    rw [q12_Conds.l1, if_neg (by omega), if_pos (by omega), if_pos (by omega)]
    simp only [Option.bind_some, List.length_nil, Nat.zero_add, List.nil_append, Int.toNat_natCast, eta_ex]
    rw [List.take_of_length_le hl, if_pos (by omega), if_pos (by omega), hj]
    rw [if_pos (by simp only [List.length_append, List.length_cons, List.length_nil]; omega), List.append_nil]
  | y :: r, j, hj, hc => by
    obtain ⟨hy, hl, hrr⟩ := rd_drop hj
    have hm : y ∈ out := List.mem_of_mem_drop (i := j) (by rw [hj]; exact .head _)
    have hyr := hout y hm
    have hpy := prB_of hyr.1 hyr.2
    have hcl := cutN_le x out
    by_cases h1 : tl y < tl x
    · have ih := condsL1_ev L i x hx out hout hlen R hR r (j + 1) hrr (by rw [cutN, if_pos h1] at hc; omega)
      refine Ev.steps 1 (f := fun k => q12_Conds.l1 k L out i (textS x) ((j + 1 : Nat) : Int) x.f0 x.f1.f0 x.f1.f1 x.f1.f2 x.f2 x.f3 x.f4 x.f5 x.f6) (fun k => ?_) ih
      rw [q12_Conds.l1, if_pos (by omega), if_pos (by omega), hy, print_f hpy, Option.bind_some, less_lt, text_tl hyr.1, text_tl hx, if_pos (decide_eq_true h1), wrap64_of (x := (j : Int) + 1) (by omega) (by omega)]
      rfl
    · have hcj : cutN x out = j := by rw [cutN, if_neg h1] at hc; omega
      by_cases h2 : tl y = tl x
      · have he : insT x out = out := by
          rw [insT_cut, hcj, hj]; simp only [if_pos h2]
        rw [he] at hR
        refine Ev.steps 1 (fun k => ?_) hR
        rw [q12_Conds.l1, if_pos (by omega), if_pos (by omega), hy, print_f hpy, Option.bind_some, less_lt, text_tl hyr.1, text_tl hx, if_neg (by rw [decide_eq_false h1]; decide), Option.bind_some, text_tl hyr.1, if_pos h2]
      · have he : insT x out = out.take j ++ x :: y :: r := by
          rw [insT_cut, hcj, hj]; simp only [if_neg h2]
        rw [he] at hR
        refine Ev.steps 1 (fun k => ?_) hR
        have hd : out.drop j = y :: r := hj
        have hll : (y :: r).length + j = out.length := by rw [← hd, List.length_drop]; omega
        rw [q12_Conds.l1, if_pos (by omega), if_pos (by omega), hy, print_f hpy, Option.bind_some, less_lt, text_tl hyr.1, text_tl hx, if_neg (by rw [decide_eq_false h1]; decide), Option.bind_some, text_tl hyr.1, if_neg h2, if_pos (by omega)]
        simp only [Option.bind_some, List.length_nil, Nat.zero_add, List.nil_append, Int.toNat_natCast, eta_ex]
        rw [if_pos (by rw [List.length_take]; omega), if_pos (by rw [List.length_take]; omega), hd, if_pos (by simp only [List.length_append, List.length_take, List.length_cons, List.length_nil] at hll ⊢; omega)]
        rw [List.append_assoc]; rfl
theorem condsL0_ev (L : List Ex) (hL : L.length + 2 < 1353245080339) (hg : ∀ x ∈ L, rngF x = true) : ∀ (l : List Ex) (i : Nat) (out : List Ex), L.drop i = l → out.length ≤ i → (∀ y ∈ out, rightB y = true ∧ rngF y = true) → Ev (fun k => q12_Conds.l0 k L out (i : Int)) (refC l out)
  | [], i, out, hi, ho, hy => by
    have hl : L.length ≤ i := List.drop_eq_nil_iff.1 hi
    refine Ev.const 1 (fun k => ?_)
    rw [q12_Conds.l0, if_neg (by omega), refC_nil]
  | x :: xs, i, out, hi, ho, hy => by
    obtain ⟨hx, hl, hr⟩ := rd_drop hi
    have hm : x ∈ L := List.mem_of_mem_drop (i := i) (by rw [hi]; exact .head _)
    have hgx := hg x hm
    rw [refC_cons]
    by_cases hrx : rightB x = true
    · rw [if_pos hrx]
      have hn := right_norm hrx
      have hng := norm_rng hgx
      have hlen := insT_len (normF x) out
      have ih := condsL0_ev L hL hg xs (i + 1) (insT (normF x) out) hr (by omega) (fun y hyy => by
        rcases insT_mem _ _ _ hyy with rfl | h
        · exact ⟨hn, hng⟩
        · exact hy y h)
      have hw : wrap64 ((i : Int) + 1) = ((i + 1 : Nat) : Int) := by rw [wrap64_of (x := (i : Int) + 1) (by omega) (by omega)]; rfl
      have h1 := condsL1_ev L (i : Int) (normF x) hn out hy (by omega) _ (by rw [hw]; exact ih) out 0 rfl (by omega)
      refine Ev.steps 1 (f := fun k => (q12_Normal.f k x.f0 x.f1.f0 x.f1.f1 x.f1.f2 x.f2 x.f3 x.f4 x.f5 x.f6).bind fun t => if t.2.2.2.2.2.2.2.2.2 = true then ((q08_Print.f t.1 t.2.1 t.2.2.1 t.2.2.2.1 t.2.2.2.2.1 t.2.2.2.2.2.1 t.2.2.2.2.2.2.1 t.2.2.2.2.2.2.2.1 t.2.2.2.2.2.2.2.2.1).bind fun s => q12_Conds.l1 k L out (i : Int) s 0 t.1 t.2.1 t.2.2.1 t.2.2.2.1 t.2.2.2.2.1 t.2.2.2.2.2.1 t.2.2.2.2.2.2.1 t.2.2.2.2.2.2.2.1 t.2.2.2.2.2.2.2.2.1) else some (([] : List Ex), false)) (fun k => ?_) ?_
      · rw [q12_Conds.l0, if_pos (by omega), if_pos (by omega), hx]
      · refine Ev.bind (refNormal_ev x hgx) ?_
        unfold refN
        rw [if_pos hrx]
        simp only [flatB, if_true]
        rw [print_f (prB_of hn hng)]
        simp only [Option.bind_some]
        exact h1
    · rw [if_neg hrx]
      refine Ev.steps 1 (f := fun k => (q12_Normal.f k x.f0 x.f1.f0 x.f1.f1 x.f1.f2 x.f2 x.f3 x.f4 x.f5 x.f6).bind fun t => if t.2.2.2.2.2.2.2.2.2 = true then ((q08_Print.f t.1 t.2.1 t.2.2.1 t.2.2.2.1 t.2.2.2.2.1 t.2.2.2.2.2.1 t.2.2.2.2.2.2.1 t.2.2.2.2.2.2.2.1 t.2.2.2.2.2.2.2.2.1).bind fun s => q12_Conds.l1 k L out (i : Int) s 0 t.1 t.2.1 t.2.2.1 t.2.2.2.1 t.2.2.2.2.1 t.2.2.2.2.2.1 t.2.2.2.2.2.2.1 t.2.2.2.2.2.2.2.1 t.2.2.2.2.2.2.2.2.1) else some (([] : List Ex), false)) (fun k => ?_) ?_
      · rw [q12_Conds.l0, if_pos (by omega), if_pos (by omega), hx]
      · refine Ev.bind (refNormal_ev x hgx) ?_
        unfold refN
        rw [if_neg hrx]
        exact Ev.now _
theorem refConds_ev (L : List Ex) (hL : L.length + 2 < 1353245080339) (hg : ∀ x ∈ L, rngF x = true) : Ev (fun k => q12_Conds.f k L) (refC L []) :=
  condsL0_ev L hL hg L 0 [] rfl (Nat.le_refl _) (fun y hy => by cases hy)
end Go.Proofs.YtpdhoghkoakojaaDoor.E
