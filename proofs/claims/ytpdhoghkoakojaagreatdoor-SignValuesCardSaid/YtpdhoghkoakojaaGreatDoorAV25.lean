/- Contracts and plain lemmas of the functions that the law reaches, part 25. -/
import Derived.Maps.OwnOps
import Derived.Maps.OwnSet
import Derived.Maps.Views
import Derived.Carry
import Derived.Test.YtpdhoghkoakojaaGreatDoorAV24
namespace Go.Proofs.YtpdhoghkoakojaaGreatDoor.E
open Go.Maps Go.WideMaps Go.RowKit Go.Proofs.YtpdhoghkoakojaaGreatDoorW.PrintWords Go.Proofs.YtpdhoghkoakojaaGreatDoorW.PrintLast Go.Proofs.YtpdhoghkoakojaaGreatDoorW.PrintMore
set_option linter.unusedVariables false
theorem wpList_insert_own {H : Type} {P : Program} (w : World) {ops : Array Oper} {rest : List Oper} {o : Oper} {a : Act} {Q : Exit → Act → World → Prop}
    (hg : o.guard = none) (m x v : Operand) (t : TypeId) (hop : o.op = Op.insert t m x v)
    (k e : TypeId) (K : Keyed P k) (ht : P.underlying t = some (.map k e)) (R : Value → Option (DataW H × List MemPlace)) (b n : Nat) (D : DataW H)
    (hm : a.eval m = .map (some b)) (hown : w.ownsMap P k R b n D) (hn : n < maxLen) (key val : Value) (kl : Lit) (hx : a.eval x = key) (hv : a.eval v = val) (hkey : keyOf P k key = some kl)
    (d : DataW H) (ps : List MemPlace) (hval : R val = some (d, ps))
    (hK : ∀ w', w'.ownsMap P k R b (n + 1) (D.put kl d) → w.grownBy w' (some b) → wpList P ops Q rest (a.put o.dst undef) w') :
    wpList P ops Q (o :: rest) a w := by
  refine wpList_plain hg fun K' hK' => ?_
  obtain ⟨w', hrun, r1, r2⟩ := hown.update K ht hn hkey hval
  unfold Oper.wp
  simp [execOp, hop, hm, hx, hv, hrun, Result.andThen]
  exact hK' _ _ (hK w' r1 r2)
abbrev MapI (w : World) (b n : Nat) (D : DataW Unit) : Prop := w.ownsMap Tryz.prog 3 (plainElem Tryz.prog 3) b n D
def turnV (op : Int) : Int := if op = 13 then 11 else if op = 14 then 12 else if op = 4 then 4 else if op = 6 then 6 else if op = 9 then 9 else if op = 10 then 10 else if op = 15 then 15 else if op = 16 then 16 else 0
def TurnsAt (m : Nat) (w : World) : Prop := ∃ n D, MapI w m n D ∧ ∀ (op : Int) (zd : DataW Unit), D.atKey (.int .i64 op) zd = if turnV op = 0 then zd else .lit (.int .i64 (turnV op))
theorem TurnsAt.later {m : Nat} {w w' : World} (h : TurnsAt m w) (hb : Below w.heap.size w w') : TurnsAt m w' := by
  obtain ⟨n, D, h1, h2⟩ := h
  refine ⟨n, D, ?_, h2⟩
  obtain ⟨es, clock, hm, h3⟩ := h1
  exact ⟨es, clock, (hb.block m (blk_lt hm)).trans hm, h3⟩
theorem TurnsAt.step {m : Nat} {w w' : World} (h : TurnsAt m w) (hb : w'.heap[m]? = w.heap[m]?) : TurnsAt m w' := by
  obtain ⟨n, D, h1, h2⟩ := h
  refine ⟨n, D, ?_, h2⟩
  obtain ⟨es, clock, hm, h3⟩ := h1
  exact ⟨es, clock, hb.trans hm, h3⟩
set_option maxRecDepth 1000000 in
theorem turns_look {m : Nat} {w : World} (h : TurnsAt m w) (op : Int) (h0 : -9223372036854775808 ≤ op) (h1 : op ≤ 9223372036854775807) :
    (Instr.lookup 45 (.map (some m)) (.int .i64 op) true).run Tryz.prog w = .ok (.tuple #[.int .i64 (turnV op), .bool (turnV op != 0)]) w := by
  obtain ⟨n, D, h2, h3⟩ := h
  obtain ⟨es, clock, hb, F, _, rfl⟩ := h2
  have hwf : (Lit.int .i64 op).wf = true := by unfold Lit.wf; simp; exact ⟨h0, h1⟩
  rcases fit_look true (int_keyed Tryz.underlying3) Tryz.underlying45 (z := .int .i64 0) (by kernel_rfl) hb F (keyOf_int_mk Tryz.underlying3 hwf) with ⟨hrun, _, hat⟩ | ⟨e0, y, _, _, hrun, hR, hat, _⟩
  · have h4 : turnV op = 0 := by
      rcases Decidable.em (turnV op = 0) with h | h
      · exact h
      · have h5 := (h3 op (.lit (.int .i64 77))).symm.trans (hat _)
        have h6 := (h3 op (.lit (.int .i64 78))).symm.trans (hat _)
        rw [if_neg h] at h5 h6
        have h7 := h5.symm.trans h6
        injection h7 with h7; injection h7 with _ h7; exact absurd h7 (by decide)
    rw [hrun, h4]; rfl
  · have h4 : ¬ turnV op = 0 := fun h => by
      have h5 := (h3 op (.lit (.int .i64 77))).symm.trans (hat _)
      have h6 := (h3 op (.lit (.int .i64 78))).symm.trans (hat _)
      rw [if_pos h] at h5 h6
      have h7 := h5.trans h6.symm
      injection h7 with h7; injection h7 with _ h7; exact absurd h7 (by decide)
    have h5 := (h3 op (.lit (.int .i64 0))).symm.trans (hat _)
    rw [if_neg h4] at h5
    obtain ⟨c, hc, hy, _⟩ := plainElem_int_inv Tryz.underlying3 hR
    rw [hy] at h5
    have h6 : turnV op = c := by injection h5 with h5; injection h5 with _ h5
    rw [hrun, hc, h6, show (c != 0) = true from bne_iff_ne.mpr (h6 ▸ h4)]; rfl
theorem gate_ins {P : Program} {ops : Array Oper} {rest : List Oper} {o : Oper} {a : Act} {Q : Exit → Act → World → Prop} {W : World} {t : TypeId} {m x v : Operand} (_ho : o.op = .insert t m x v) (h : wpList P ops Q (o :: rest) a W) : wpList P ops Q (o :: rest) a W := h
theorem put_at {D : DataW Unit} (hD : IsMap D) (k v op : Int) (zd : DataW Unit) : (D.put (.int .i64 k) (.lit (.int .i64 v))).atKey (.int .i64 op) zd = if op = k then .lit (.int .i64 v) else D.atKey (.int .i64 op) zd := by
  by_cases h : op = k
  · subst h
    rw [if_pos rfl, atKey_put_same hD (show WideAt.IsKeyLit (.int .i64 op) from trivial)]
  · rw [if_neg h, atKey_put_other (fun e => h (by injection e))]
theorem isMap_put {D : DataW Unit} (hD : IsMap D) (k : Lit) (d : DataW Unit) : IsMap (D.put k d) := by
  obtain ⟨es, rfl⟩ := hD
  exact ⟨_, rfl⟩
set_option maxHeartbeats 2000000 in
set_option maxRecDepth 100000 in
theorem turned_ok (w : World) : Calls Tryz.prog 12 #[] w fun e w' => ∃ m, e = .returned (.map (some m)) ∧ TurnsAt m w' ∧ Below w.heap.size w w' := by
  have hmm := @run_makeMap Tryz.prog
  go_enter Tryz.func12, Tryz.ntmps12
  have HM := Lib.hid (World.ownsMap_made (H := Unit) (P := Tryz.prog) w 3 (plainElem Tryz.prog 3))
  have HB := Lib.hid (blA (Below.refl w.heap.size w) (.map #[] 0))
  go_wp2_with (first | ((with_reducible refine gate_ins rfl ?_); refine wpList_insert_own _ rfl _ _ _ 45 rfl 3 3 (int_keyed Tryz.underlying3) Tryz.underlying45 _ w.heap.size _ _ rfl HM.out (by decide) _ _ (.int .i64 _) rfl rfl (keyOf_int_mk Tryz.underlying3 (by decide)) (.lit (.int .i64 _)) [] (plainElem_int Tryz.underlying3 (by decide)) ?_; intro w1 ho hg; have HB2 := Lib.hid (HB.out.grown hg HB.out.size (fun k hk => by cases hk; exact Nat.le_refl _)); clear HM HB; have HM := Lib.hid ho; have HB := HB2; clear HB2 ho hg))
  go_ret
  refine ⟨w.heap.size, rfl, ⟨_, _, HM.out, fun op zd => ?_⟩, HB.out⟩
  clear HM HB
  have h0 : IsMap (DataW.map (H := Unit) []) := isMap_empty
  have h1 := isMap_put h0 (.int .i64 13) (.lit (.int .i64 11))
  have h2 := isMap_put h1 (.int .i64 14) (.lit (.int .i64 12))
  have h3 := isMap_put h2 (.int .i64 4) (.lit (.int .i64 4))
  have h4 := isMap_put h3 (.int .i64 6) (.lit (.int .i64 6))
  have h5 := isMap_put h4 (.int .i64 9) (.lit (.int .i64 9))
  have h6 := isMap_put h5 (.int .i64 10) (.lit (.int .i64 10))
  have h7 := isMap_put h6 (.int .i64 15) (.lit (.int .i64 15))
  rw [put_at h7, put_at h6, put_at h5, put_at h4, put_at h3, put_at h2, put_at h1, put_at h0]
  unfold turnV
  have he : (DataW.map (H := Unit) []).atKey (.int .i64 op) zd = zd := by simp [DataW.atKey]
  rw [he]
  by_cases a1 : op = 13
  · subst a1; simp
  by_cases a2 : op = 14
  · subst a2; simp
  by_cases a3 : op = 4
  · subst a3; simp
  by_cases a4 : op = 6
  · subst a4; simp
  by_cases a5 : op = 9
  · subst a5; simp
  by_cases a6 : op = 10
  · subst a6; simp
  by_cases a7 : op = 15
  · subst a7; simp
  by_cases a8 : op = 16
  · subst a8; simp
  simp [a1, a2, a3, a4, a5, a6, a7, a8]
end Go.Proofs.YtpdhoghkoakojaaGreatDoor.E
