/- What a token is, plain; strings.HasPrefix; where the closure of lex.Lex stands. -/
import Derived.Test.YtniapbinamnmpaaDoorLq
namespace Go.Proofs.YtniapbinamnmpaaDoor.L
set_option linter.unusedVariables false
set_option linter.unusedSimpArgs false
open Go.RowKit Go.Proofs.YtniapbinamnmpaaDoorW.PrintWords Go.Proofs.YtniapbinamnmpaaDoorW.PrintLast Go.Proofs.YtniapbinamnmpaaDoorW.PrintMore

abbrev Tk := S32
def signsL : List (List UInt8) := [[60, 61], [62, 61], [60, 62], [60], [62], [61], [43], [45], [42], [47], [40], [41], [44], [46]]
/-- The sign that a text begins with. -/
def signL (d : List UInt8) : Option (List UInt8) := signsL.find? (fun g => g.isPrefixOf d)
/-- The token at a place: its kind, number, text, where it ends; or the error, its place. -/
def oneL (l : List UInt8) (i : Nat) : (Int × Int) ⊕ (Int × Int × List UInt8 × Nat) :=
  match l.drop i with
  | [] => .inl (6, i)
  | c :: r =>
    if letB c = true then (if spanL wrdB (c :: r) > 20 then .inl (5, i) else .inr (if isWord (lowL ((c :: r).take (spanL wrdB (c :: r)))) = true then 1 else 2, 0, lowL ((c :: r).take (spanL wrdB (c :: r))), i + spanL wrdB (c :: r)))
    else if digB c = true then (match numL 0 ((c :: r).take (spanL digB (c :: r))) with | none => .inl (5, i) | some v => .inr (3, v, [], i + spanL digB (c :: r)))
    else if c = 39 then (match quotL r with | none => .inl (6, l.length) | some p => if p.1.length > 40 then .inl (5, i) else .inr (4, 0, p.1, i + 1 + p.2))
    else if c = 36 then (if spanL digB r = 0 then .inl (6, i) else match numL 0 (r.take (spanL digB r)) with | none => .inl (5, i) | some v => if v < 1 ∨ v > 4 then .inl (5, i) else .inr (5, v, [], i + 1 + spanL digB r))
    else (match signL (c :: r) with | some g => .inr (6, 0, g, i + g.length) | none => .inl (6, i))
def OneQ (q : (Int × Int) ⊕ (Int × Int × List UInt8 × Nat)) (i : Nat) (e : Ending) : Prop :=
  match q with
  | .inl p => ∃ (x0 x1 x2 : Int) (x3 : ByteArray), e = .returned (.tuple #[.agg #[.int .i64 x0, .int .i64 x1, .int .i64 x2, .string x3], .int .i64 0, .int .i64 p.1, .int .i64 p.2])
  | .inr p => e = .returned (.tuple #[.agg #[.int .i64 p.1, .int .i64 p.2.1, .int .i64 i, .string ⟨p.2.2.1.toArray⟩], .int .i64 p.2.2.2, .int .i64 0, .int .i64 0])

theorem ext_list (s : ByteArray) (a b : Nat) : (s.extract a b).data.toList = (s.data.toList.drop a).take (b - a) := Lib.extract_data s a b
set_option maxRecDepth 100000 in
theorem prefix_lite (s p : ByteArray) (w : World) (hs : s.size ≤ 100000) (hp : p.size ≤ 100000) :
    Calls Tryd.prog 35 #[.string s, .string p] w fun e w' => e = .returned (.bool (p.data.toList.isPrefixOf s.data.toList)) ∧ w = w' := by
  obtain ⟨n, hn⟩ : ∃ n, s.size = n := ⟨_, rfl⟩
  obtain ⟨k, hk⟩ : ∃ k, p.size = k := ⟨_, rfl⟩
  obtain ⟨b, hb⟩ : ∃ b, p.data.toList.isPrefixOf s.data.toList = b := ⟨_, rfl⟩
  have hln : s.data.toList.length = n := by rw [← sz_list, hn]
  have hlk : p.data.toList.length = k := by rw [← sz_list, hk]
  rw [hb]
  by_cases hle : k ≤ n
  · have hle' : (k : Int) ≤ (n : Int) := by omega
    have HE : Hid (((s.extract 0 k).toList == p.toList) = b) := by
      show _ = _
      rw [← hb, Bool.eq_iff_iff, beq_iff_eq, List.isPrefixOf_iff_prefix, ByteArray.toList_eq, ByteArray.toList_eq, ext_list]
      rw [List.prefix_iff_eq_take, hlk]
      constructor
      · intro h; rw [← h]; simp
      · intro h; rw [h]; simp
    clear hb hln hlk
    go_enter Tryd.func35, Tryd.ntmps35
    go_wp2_with fail
    go_ret
    exact ⟨by rw [← HE.out]; rfl, rfl⟩
  · have hle' : ¬ (k : Int) ≤ (n : Int) := by omega
    have HE : Hid (b = false) := by
      show _ = _
      rw [← hb, Bool.eq_false_iff]
      intro h
      have := (List.isPrefixOf_iff_prefix.1 h).length_le
      omega
    clear hb hln hlk
    go_enter Tryd.func35, Tryd.ntmps35
    go_wp2_with fail
    go_ret
    exact ⟨by rw [HE.out]; rfl, rfl⟩
set_option maxRecDepth 100000 in
theorem prefix_ok (s p : ByteArray) (w : World) (hs : s.size ≤ 100000) (hp : p.size ≤ 100000) :
    Calls Tryd.prog 22 #[.string s, .string p] w fun e w' => e = .returned (.bool (p.data.toList.isPrefixOf s.data.toList)) ∧ w = w' := by
  have H := Lib.hid (prefix_lite s p w hs hp)
  obtain ⟨b, hb⟩ : ∃ b, p.data.toList.isPrefixOf s.data.toList = b := ⟨_, rfl⟩
  rw [hb] at H ⊢
  clear hb
  go_enter Tryd.func22, Tryd.ntmps22
  go_wp2_with (go_at_call 35; refine H.out.mono ?_; rintro r w2 ⟨rfl, rfl⟩)
  go_ret
  exact ⟨rfl, rfl⟩

def tkC (k n a : Int) (s : ByteArray) : Array Value := #[.int .i64 k, .int .i64 n, .int .i64 a, .string s]
theorem tk_put {w : World} {rb : Nat} {k0 n0 a0 : Int} {s0 : ByteArray} (h : w.heap[rb]? = some (.cells (tkC k0 n0 a0 s0) 32 (0, 0))) (k n a : Int) (s : ByteArray) :
    ((((w.setCell ⟨rb, 0, none⟩ (.int .i64 k)).setCell ⟨rb, 1, none⟩ (.int .i64 n)).setCell ⟨rb, 2, none⟩ (.int .i64 a)).setCell ⟨rb, 3, none⟩ (.string s)).heap[rb]? = some (.cells (tkC k n a s) 32 (0, 0)) :=
  blk_set (blk_set (blk_set (blk_set h 0 _) 1 _) 2 _) 3 _
theorem tk_below {B : Nat} {w0 w : World} {rb : Nat} (h : Below B w0 w) (hr : B ≤ rb) (k n a : Int) (s : ByteArray) :
    Below B w0 ((((w.setCell ⟨rb, 0, none⟩ (.int .i64 k)).setCell ⟨rb, 1, none⟩ (.int .i64 n)).setCell ⟨rb, 2, none⟩ (.int .i64 a)).setCell ⟨rb, 3, none⟩ (.string s)) :=
  (((h.setCell (p := ⟨rb, 0, none⟩) hr _).setCell (p := ⟨rb, 1, none⟩) hr _).setCell (p := ⟨rb, 2, none⟩) hr _).setCell (p := ⟨rb, 3, none⟩) hr _
theorem tk_far {w : World} {g rb : Nat} {o : Obj} (h : w.heap[g]? = some o) (hn : g ≠ rb) (k n a : Int) (s : ByteArray) : ((((w.setCell ⟨rb, 0, none⟩ (.int .i64 k)).setCell ⟨rb, 1, none⟩ (.int .i64 n)).setCell ⟨rb, 2, none⟩ (.int .i64 a)).setCell ⟨rb, 3, none⟩ (.string s)).heap[g]? = some o :=
  (Below.heap_setCell _ ⟨rb, 3, none⟩ _ g hn).trans ((Below.heap_setCell _ ⟨rb, 2, none⟩ _ g hn).trans ((Below.heap_setCell _ ⟨rb, 1, none⟩ _ g hn).trans ((Below.heap_setCell _ ⟨rb, 0, none⟩ _ g hn).trans h)))
theorem results_cttt {P : Program} {fn : Func} {p u v x : Tmp} {ty : TypeId} (h : fn.results = #[.cell p ty, .tmp u, .tmp v, .tmp x]) (tmps : Array Value) (w : World) (g : Nat) (t : TypeId) (cs : Array Value) (fr : Nat × Nat) (d : TypeDesc)
    (hp : tmps.getD p undef = .pointer (some ⟨g, 0, none⟩)) (hg : w.heap[g]? = some (.cells cs t fr))
    (hu : P.underlying ty = some d) (hd : (match d with | .struct _ | .array _ _ => true | _ => false) = true) (hi : (P.info? ty).map (·.size) = some cs.size) :
    (results fn tmps).run P w = .ok (.tuple #[.agg cs, tmps.getD u undef, tmps.getD v undef, tmps.getD x undef]) w := by
  have hp' : tmps[p]?.getD undef = .pointer (some ⟨g, 0, none⟩) := by simpa using hp
  simp [results, h, hp', asAddr, run_loadVar_row w g t ty cs fr d hg hu hd hi]
/-- Where the closure stands: t in its own variable, r in the result's. -/
structure OEnv (w0 : World) (rb tb : Nat) (k n a : Int) (x : ByteArray) (k' n' a' : Int) (x' : ByteArray) (w : World) : Prop where
  bl : Below w0.heap.size w0 w
  tb_ : w.heap[tb]? = some (.cells (tkC k n a x) 32 (0, 0))
  rb_ : w.heap[rb]? = some (.cells (tkC k' n' a' x') 32 (0, 0))
  ne : rb ≠ tb
  rw_ : w0.heap.size ≤ rb
  tw_ : w0.heap.size ≤ tb
theorem OEnv.later {w0 w w' : World} {rb tb : Nat} {k n a : Int} {x : ByteArray} {k' n' a' : Int} {x' : ByteArray} (h : OEnv w0 rb tb k n a x k' n' a' x' w) (hb : Below w.heap.size w w') : OEnv w0 rb tb k n a x k' n' a' x' w' :=
  ⟨h.bl.trans (hb.mono h.bl.size), (hb.block tb (blk_lt h.tb_)).trans h.tb_, (hb.block rb (blk_lt h.rb_)).trans h.rb_, h.ne, h.rw_, h.tw_⟩
theorem OEnv.set {w0 w : World} {rb tb : Nat} {k n a : Int} {x : ByteArray} {k' n' a' : Int} {x' : ByteArray} (h : OEnv w0 rb tb k n a x k' n' a' x' w) (i : Nat) (v : Value) {k1 n1 a1 : Int} {x1 : ByteArray} (hv : (tkC k n a x).setIfInBounds i v = tkC k1 n1 a1 x1) : OEnv w0 rb tb k1 n1 a1 x1 k' n' a' x' (w.setCell ⟨tb, i, none⟩ v) :=
  ⟨h.bl.setCell (p := ⟨tb, i, none⟩) h.tw_ _, by rw [← hv]; exact blk_set h.tb_ i v, (Below.heap_setCell _ ⟨tb, i, none⟩ _ rb h.ne).trans h.rb_, h.ne, h.rw_, h.tw_⟩
theorem oenv_drew {w0 w : World} {rb tb : Nat} {k n a : Int} {x : ByteArray} {k' n' a' : Int} {x' : ByteArray} (h : OEnv w0 rb tb k n a x k' n' a' x' w) : OEnv w0 rb tb k n a x k' n' a' x' w.drew :=
  h.later ⟨rfl, rfl, rfl, Nat.le_refl _, fun _ _ => rfl⟩
end Go.Proofs.YtniapbinamnmpaaDoor.L
