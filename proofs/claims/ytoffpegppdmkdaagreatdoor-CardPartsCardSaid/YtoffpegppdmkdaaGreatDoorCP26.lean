/- Contracts and plain lemmas of the functions that the law reaches, part 26. -/
import Derived.Shelf.SlSortCmp.NoneTotal
import Derived.Test.YtoffpegppdmkdaaGreatDoorCP11
import Derived.Test.YtoffpegppdmkdaaGreatDoorCP15
import Derived.Test.YtoffpegppdmkdaaGreatDoorCP24
import Derived.Test.YtoffpegppdmkdaaGreatDoorCP25
namespace Go.Proofs.YtoffpegppdmkdaaGreatDoor.E
open Go.RowKit Go.Proofs.YtoffpegppdmkdaaGreatDoorW.PrintWords Go.Proofs.YtoffpegppdmkdaaGreatDoorW.PrintLast Go.Proofs.YtoffpegppdmkdaaGreatDoorW.PrintMore
set_option linter.unusedVariables false
set_option linter.unusedSimpArgs false
def SortedOf (ys xs : List Ex) : Prop := ys.Perm xs ∧ ys.Pairwise (fun a b => ¬ tl b < tl a)
theorem sort_any {w0 w : World} {base : Nat} {ok : Nat → Prop} {v : Value} {xs : List Ex} (hT : TabW w0) (hB : Below w0.heap.size w0 w) (hb : w0.heap.size ≤ base) (hrg : ∀ x ∈ xs, rngF x = true) (hsz : xs.length < 4611686018427387904) (hN : Kd.N KX TX w base ok v xs) :
    Calls Tryz.prog 69 #[v, .func (.func 70) #[] #[]] w fun e w' => e = .returned (.tuple #[]) ∧ ∃ ys, SortedOf ys xs ∧ Kd.N KX TX w' base ok v ys ∧ Below w0.heap.size w0 w' := by
  rcases Nat.eq_zero_or_pos xs.length with h0 | h0
  · obtain ⟨A, c, rfl⟩ := Kd.N_slice hN
    rw [h0] at hN ⊢
    have hcon := AnyF.slices_SortFunc_none Tryz.sortEx A c (.func (.func 70) #[] #[]) w
    change Calls Tryz.prog 69 _ _ _ at hcon
    refine hcon.mono ?_
    rintro e w' ⟨he, rfl⟩
    obtain rfl := List.length_eq_zero_iff.1 h0
    exact ⟨he, [], ⟨.refl _, .nil⟩, hN, hB⟩
  · obtain ⟨g, cap, rfl, hbg, hg, _⟩ := Kd.N_form hN h0
    refine (sort_ok hT hB hb hrg hsz hN).mono ?_
    rintro e w' ⟨he, ys, hp, hs, hN', hB'⟩
    exact ⟨he, ys, ⟨hp, hs⟩, hN', hB.trans (hB' _ hb hB.size)⟩
set_option maxRecDepth 100000 in
theorem compact_nil (A : Option Addr) (c : Nat) (w : World) : Calls Tryz.prog 72 #[.slice A 0 c, .func (.func 73) #[] #[]] w fun e w' => e = .returned (.slice A 0 c) ∧ w' = w := by
  go_enter Tryz.func72, Tryz.ntmps72
  go_wp2_with fail
  go_ret
  exact ⟨rfl, rfl⟩
theorem compact_any {w0 w : World} {base : Nat} {ok : Nat → Prop} {v : Value} {xs : List Ex} (hT : TabW w0) (hB : Below w0.heap.size w0 w) (hb : w0.heap.size ≤ base) (hrg : ∀ x ∈ xs, rngF x = true) (hsz : xs.length ≤ 4611686018427387904) (hN : Kd.N KX TX w base ok v xs) :
    Calls Tryz.prog 72 #[v, .func (.func 73) #[] #[]] w fun e w' => ∃ v, e = .returned v ∧ Kd.N KX TX w' base ok v (compF xs) ∧ Below w0.heap.size w0 w' := by
  rcases Nat.eq_zero_or_pos xs.length with h0 | h0
  · obtain ⟨A, c, rfl⟩ := Kd.N_slice hN
    rw [h0] at hN ⊢
    refine (compact_nil A c w).mono ?_
    rintro e w' ⟨rfl, rfl⟩
    obtain rfl := List.length_eq_zero_iff.1 h0
    exact ⟨_, rfl, hN, hB⟩
  · obtain ⟨g, cap, rfl, hbg, hg, _⟩ := Kd.N_form hN h0
    exact compact_ok hT hB hb hrg hsz hN
def CondsP (xs : List Ex) (w : World) (r : Ending) (w' : World) : Prop :=
  (xs.all rightB = false ∧ r = .returned (.tuple #[.slice none 0 0, .int .i64 1]) ∧ Below w.heap.size w w') ∨
  (xs.all rightB = true ∧ ∃ v ys, SortedOf ys (xs.map normF) ∧ r = .returned (.tuple #[v, .int .i64 0]) ∧ Kd.N KX TX w' w.heap.size (fun k => w.heap.size ≤ k) v (compF ys) ∧ Below w.heap.size w w')
set_option maxHeartbeats 1000000 in
set_option maxRecDepth 100000 in
theorem Conds_ok (xs : List Ex) (A : Option Addr) (c : Nat) (w : World) (hT : TabW w) (hRg : ∀ x ∈ xs, rngF x = true) (hC : Kd.C KX w A xs.length xs) (hl : xs.length * 104 ≤ 140737488351232) :
    Calls Tryz.prog 35 #[.slice A xs.length c] w (CondsP xs w) := by
  have HCT := Lib.hid (anyRight_ok xs A c w hC (by omega))
  have HEA : Hid (xs.all rightB = true → ∀ w2 mb m, Below w.heap.size w w2 → w2.heap[mb]? = some (.cells #[.map (some m)] 99 (0, 0)) → TurnsAt m w2 → Calls Tryz.prog 67 #[.slice A xs.length c, .func (.func 68) #[] #[.pointer (some ⟨mb, 0, none⟩)]] w2 fun e w' => ∃ v, e = .returned v ∧ Kd.N KX TX w' w2.heap.size (fun k => w2.heap.size ≤ k) v (xs.map normF) ∧ Below w2.heap.size w2 w') := Lib.hid (fun hr w2 mb m hB hm hTu =>
    each_ok 68 #[.pointer (some ⟨mb, 0, none⟩)] normF xs A c w2 (Kd.C_below hC hB) hl hcfC2 (fun x hx => cond2_ok x (normal_ok _ x (Nat.lt_succ_self _)) (Rt.of (List.all_eq_true.1 hr x hx)) (hRg x hx) mb m w2 hm (tab_at hT hB) hTu))
  have HNR : Hid (∀ x ∈ xs.map normF, rngF x = true) := Lib.hid (fun x hx => by obtain ⟨y, hy, rfl⟩ := List.mem_map.1 hx; exact norm_rng (hRg y hy))
  have HNL : Hid ((xs.map normF).length < 4611686018427387904) := Lib.hid (by rw [List.length_map]; omega)
  have HT := Lib.hid hT
  obtain ⟨rt, hrt⟩ : ∃ rt, xs.all rightB = rt := ⟨_, rfl⟩
  rw [hrt] at HCT HEA
  have HRT := Lib.hid hrt
  clear hT hRg hC hrt
  go_enter Tryz.func35, Tryz.ntmps35
  cases rt with
  | false =>
    go_wp2_with (go_at_call 65; refine HCT.out.mono ?_; rintro r w3 ⟨rfl, hB3⟩; have HB3 := Lib.hid hB3; clear hB3)
    go_ret2
    exact .inl ⟨HRT.out, rfl, HB3.out⟩
  | true =>
    go_upto_region 3 with (go_at_call 65; refine HCT.out.mono ?_; rintro r w3 ⟨rfl, hB3⟩; have HB3 := Lib.hid hB3; clear hB3)
    have HTD : Hid (∀ W, Calls Tryz.prog 52 #[] W fun r w' => ∃ m, r = .returned (.map (some m)) ∧ TurnsAt m w' ∧ Below W.heap.size W w') := Lib.hid (fun W => turned_ok W)
    go_upto_region 4 with (first
      | (go_at_call 52; refine (HTD.out _).mono ?_; rintro r w4 ⟨m, rfl, hTu, hB4⟩; have HTU := Lib.hid hTu; have HB4 : Hid (Below w.heap.size w w4) := Lib.hid (HB3.out.trans (hB4.mono HB3.out.size)); clear hTu hB4)
      | ((with_reducible refine gate_dst (N := 4) rfl ?_); refine box_event rfl (N := 4) rfl (cs := #[.map (some m)]) (t := 99) (by first | rfl | (go_simp; done) | (go_simp; rfl)) ?_; intro mb hgg w5 hbmb hBmb;  have HMB := Lib.hid hbmb; have HB5 := Lib.hid hBmb; clear hgg hbmb hBmb))
    have hmb : (w4.alloc (.cells #[.map (some m)] 99 (0, 0))).heap[w4.heap.size]? = some (.cells #[.map (some m)] 99 (0, 0)) := by show (w4.heap.push _)[w4.heap.size]? = _; exact Array.getElem?_push_size
    have hB5 : Below w.heap.size w (w4.alloc (.cells #[.map (some m)] 99 (0, 0))) := blA HB4.out _
    have hTu5 : TurnsAt m (w4.alloc (.cells #[.map (some m)] 99 (0, 0))) := HTU.out.later (blA (Below.refl _ _) _)
    generalize w4.heap.size = mb at hmb ⊢
    generalize w4.alloc (.cells #[.map (some m)] 99 (0, 0)) = w5 at hmb hB5 hTu5 ⊢
    have HEC := Lib.hid (HEA.out trivial w5 mb m hB5 hmb hTu5)
    have HB5 := Lib.hid hB5
    clear hmb hB5 hTu5 HEA HTU HTD
    go_upto_region 5 with (go_at_call 67; refine HEC.out.mono ?_; rintro r w6 ⟨v, rfl, hN6, hB6⟩; have HN6 : Hid (Kd.N KX TX w6 w.heap.size (fun k => w.heap.size ≤ k) v (xs.map normF)) := Lib.hid (Kd.N_lower (Kd.N_mono hN6 (fun k hk => Nat.le_trans HB5.out.size hk)) HB5.out.size); have HB6 : Hid (Below w.heap.size w w6) := Lib.hid (HB5.out.trans (hB6.mono HB5.out.size)); clear hN6 hB6)
    have HSO := Lib.hid (sort_any HT.out HB6.out (Nat.le_refl _) HNR.out HNL.out HN6.out)
    go_upto_region 6 with (go_at_call 69; refine HSO.out.mono ?_; rintro r w7 ⟨rfl, ys, hys, hN7, hB7⟩; have HYS := Lib.hid hys; have HN7 := Lib.hid hN7; have HB7 := Lib.hid hB7; clear hys hN7 hB7)
    have HCO := Lib.hid (compact_any HT.out HB7.out (Nat.le_refl _) (fun x hx => HNR.out x (HYS.out.1.mem_iff.1 hx)) (Nat.le_of_lt (by rw [HYS.out.1.length_eq]; exact HNL.out)) HN7.out)
    go_wp2_with (go_at_call 72; refine HCO.out.mono ?_; rintro r w8 ⟨v8, rfl, hN8, hB8⟩; have HN8 := Lib.hid hN8; have HB8 := Lib.hid hB8; clear hN8 hB8)
    go_ret2
    exact .inr ⟨HRT.out, v8, ys, HYS.out, rfl, HN8.out, HB8.out⟩
def MakesI (fid : Nat) (caps : Array Value) (w : World) (F : Int → Ex) (x : Int) : Prop :=
  ∀ (W : World), Below w.heap.size w W → Calls Tryz.prog fid (#[.int .i64 x] ++ caps) W (NewE (F x) W)
set_option maxHeartbeats 4000000 in
set_option maxRecDepth 100000 in
theorem eachI_ok (fid : Nat) (caps : Array Value) (F : Int → Ex) (xs : List Int) (A : Option Addr) (c : Nat) (w : World) (hC : (Kd.int .i64).C w A xs.length xs) (hl : xs.length * 104 ≤ 140737488351232)
    (hcf : ∀ (args : Array Value) (W : World), (callFunc fid args).run Tryz.prog W = .ok (.enter fid args) W) (hF : ∀ x ∈ xs, MakesI fid caps w F x) :
    Calls Tryz.prog 40 #[.slice A xs.length c, .func (.func fid) #[] caps] w fun e w' => ∃ v, e = .returned v ∧ Kd.N KX TX w' w.heap.size (fun k => w.heap.size ≤ k) v (xs.map F) ∧ Below w.heap.size w w' := by
  obtain ⟨n, hn⟩ : ∃ n, xs.length = n := ⟨_, rfl⟩
  rw [hn] at hC hl ⊢
  have HN := Lib.hid hn; clear hn
  have HC := Lib.hid hC; clear hC
  have HF := Lib.hid hF; clear hF
  go_enter Tryz.func40, Tryz.ntmps40
  go_upto_region 3 with fail
  go_loopw [5, 10] (fun v5 v10 wr => ∃ (k : Nat) (v : Value), v = v5 ∧ k ≤ n ∧ v10 = .int .i64 k ∧ Hid (Kd.N KX TX wr w.heap.size (fun k => w.heap.size ≤ k) v ((xs.take k).map F)) ∧ Hid (Below w.heap.size w wr)) (fun _ i _ => n - (intOf i).toNat)
  case atStart => exact ⟨0, _, rfl, Nat.zero_le _, rfl, Lib.hid (Kd.N_nil _ _ _ _ _), Lib.hid (Below.refl _ _)⟩
  case round =>
    obtain ⟨k, v, rfl, hk, rfl, HK, HB⟩ := hrel
    by_cases hlt : k < n
    · have hlt' : (k : Int) < n := by omega
      have hw1 : IntKind.i64.wrap ((k : Int) + 1) = (k : Int) + 1 := IntWalk.i64_in _ (by omega)
      obtain ⟨ad, rfl, h0⟩ := Kd.at_int HC.out (k : Int) (by omega) (by omega)
      rw [show ((k : Int)).toNat = k by omega] at h0
      obtain ⟨x, hx⟩ : ∃ x, rd xs (k : Int) = x := ⟨_, rfl⟩
      rw [hx] at h0
      have HE : Hid (xs[k]? = some x) := Lib.hid (by
        have hkl : k < xs.length := by rw [HN.out]; exact hlt
        rw [List.getElem?_eq_getElem hkl, ← hx]
        unfold rd
        simp [List.getElem?_eq_getElem hkl])
      replace h0 := pw_cell_below HB.out h0
      clear hx
      go_upto_region 5 with fail
      clear h0
      have HBW := HB
      have hmem : x ∈ xs := List.mem_of_getElem? HE.out
      have HCL : Hid (Calls Tryz.prog fid (#[.int .i64 x] ++ caps) wr (NewE (F x) wr)) := Lib.hid (HF.out x hmem wr HBW.out)
      have HB4 : Hid (Below wr.heap.size wr wr) := Lib.hid (Below.refl _ _)
      clear hmem
      have hfe : ∀ (args : Array Value), (callFunc fid args).run Tryz.prog wr = .ok (.enter fid args) wr := fun args => hcf args wr
      have HHK : Hid (∀ b, wr.heap.size ≤ b → w.heap.size ≤ b ∧ some b ≠ v.ownBlock) := Lib.hid (fun b hb => ⟨Nat.le_trans HBW.out.size hb, fun h => by have h1 := Kd.N_lt HK.out b h.symm; have := HB4.out.size; omega⟩)
      have HNK : Hid (Kd.N KX TX wr w.heap.size (fun k => w.heap.size ≤ k) v ((xs.take k).map F)) := Lib.hid (Kd.N_below HK.out HB4.out)
      have HTL : Hid (((xs.take k).map F).length = k) := Lib.hid (by rw [List.length_map, List.length_take, HN.out]; omega)
      go_wp2_with fail
      refine HCL.out.mono ?_
      rintro r w5 ⟨D, kk, rfl, hkk, hFF, hB5⟩
      have HFF := Lib.hid hFF; have HB5 := Lib.hid hB5
      clear hFF hB5 HCL
      unfold exC
      have HFK : Hid (Kd.FK KX w5 (fun b => wr.heap.size ≤ b) (F x) [.int .i64 (F x).f0, .int .i64 (F x).f1.f0, .int .i64 (F x).f1.f1, .string (F x).f1.f2, .int .i64 (F x).f2, .int .i64 (F x).f3, .int .i64 (F x).f4, .string (F x).f5, .slice D (F x).f6.length kk]) := Lib.hid (k26_mkF w5 _ (F x) hkk HFF.out)
      have HNK5 : Hid (Kd.N KX TX w5 w.heap.size (fun k => w.heap.size ≤ k) v ((xs.take k).map F)) := Lib.hid (Kd.N_below HNK.out HB5.out)
      have HBW5 : Hid (Below w.heap.size w w5) := Lib.hid (HBW.out.trans (HB5.out.mono HBW.out.size))
      have hsz5 : w.heap.size ≤ w5.heap.size := HBW5.out.size
      go_wp2_with ((with_reducible refine gate_builtin (b := .append) (xs := #[.tmp 14, .tmp 18]) rfl ?_); at_builtin; refine Kd.N_append KX (w0 := w) w.heap.size rfl (.tmp 14) (.tmp 18) 24 26 (.agg #[(.int .i64 0), (.int .i64 0), (.int .i64 0), (.string ⟨#[]⟩), (.int .i64 0), (.int .i64 0), (.int .i64 0), (.string ⟨#[]⟩), (.slice none 0 0)]) 104 rfl Tryz.underlying24 info26 rfl (by decide) (by omega) v ((xs.take k).map F) (F x) [.int .i64 (F x).f0, .int .i64 (F x).f1.f0, .int .i64 (F x).f1.f1, .string (F x).f1.f2, .int .i64 (F x).f2, .int .i64 (F x).f3, .int .i64 (F x).f4, .string (F x).f5, .slice D (F x).f6.length kk] (fun k => w.heap.size ≤ k) (fun b => wr.heap.size ≤ b) rfl rfl ?aP ?aK ?aF ?aO ?aB ?aS ?aL ?_; (case aP => exact HFK.out); (case aK => exact HHK.out); (case aF => exact (fun b hb => Nat.le_trans hsz5 hb)); (case aO => exact HNK5.out); (case aB => exact HBW5.out); (case aS => exact hsz5); (case aL => rw [HTL.out]; omega); intro v1 w6 ho hb hg hat; have HO6 := Lib.hid ho; have HB6 := Lib.hid hb; clear ho hb hg hat)
      go_roundw
      case rel =>
        refine ⟨k + 1, _, rfl, by omega, by go_num, ?_, HB6⟩
        have h := HO6.out
        have h2 : xs.take (k + 1) = xs.take k ++ [x] := by rw [List.take_add_one, HE.out]; rfl
        rw [h2, List.map_append]
        exact Lib.hid h
      case measure => simp [intOf]; omega
    · have hlt' : ¬ (k : Int) < n := by omega
      obtain rfl : n = k := by omega
      go_wp2_with fail
      go_ret
      refine ⟨_, rfl, ?_, HB.out⟩
      have h := HK.out
      rw [List.take_of_length_le (by rw [HN.out]; exact Nat.le_refl _)] at h
      exact h
mutual
def rankF (r : List Int) : Ex → Ex
  | ⟨op, v, c, d, n, s, l⟩ => ⟨op, v, if op = 2 then rd r c else c, d, n, s, rankL r l⟩
def rankL (r : List Int) : List Ex → List Ex
  | [] => []
  | x :: l => rankF r x :: rankL r l
end
theorem rankL_map (r : List Int) : ∀ l : List Ex, rankL r l = l.map (rankF r)
  | [] => by rw [rankL]; rfl
  | x :: l => by rw [rankL, rankL_map r l]; rfl
theorem rankF_eq (r : List Int) (e : Ex) : rankF r e = ⟨e.f0, e.f1, if e.f0 = 2 then rd r e.f2 else e.f2, e.f3, e.f4, e.f5, e.f6.map (rankF r)⟩ := by
  obtain ⟨op, v, c, d, n, s, l⟩ := e
  rw [rankF, rankL_map]
mutual
def inR (r : List Int) : Ex → Bool
  | ⟨op, _, c, _, _, _, l⟩ => (decide (op = 2 → 0 ≤ c ∧ c < r.length)) && inRL r l
def inRL (r : List Int) : List Ex → Bool
  | [] => true
  | x :: l => inR r x && inRL r l
end
theorem inR_eq (r : List Int) (e : Ex) : inR r e = ((decide (e.f0 = 2 → 0 ≤ e.f2 ∧ e.f2 < r.length)) && inRL r e.f6) := by cases e; rw [inR]
theorem inRL_mem {r : List Int} {l : List Ex} (h : inRL r l = true) {x : Ex} (hx : x ∈ l) : inR r x = true := by
  induction l with
  | nil => cases hx
  | cons y l ih =>
    simp only [inRL, Bool.and_eq_true] at h
    cases hx with
    | head => exact h.1
    | tail _ hx => exact ih h.2 hx
def RankedOk (r : List Int) (x : Ex) : Prop := ∀ (A R : Option Addr) (c k : Nat) (W : World), Rt x → inR r x = true → x.f6.length ≤ c → r.length ≤ k → (Kd.int .i64).C W R r.length r → Kd.C KX W A x.f6.length x.f6 →
  Calls Tryz.prog 42 #[.agg (exC x A c), .slice R r.length k] W (NewE (rankF r x) W)
theorem hcfR : ∀ (args : Array Value) (W : World), (callFunc 77 args).run Tryz.prog W = .ok (.enter 77 args) W := fun args W => by go_simp
set_option maxHeartbeats 4000000 in
set_option maxRecDepth 100000 in
theorem rank1_ok (r : List Int) (x : Ex) (h : RankedOk r x) (hRt : Rt x) (hin : inR r x = true) (mb : Nat) (R : Option Addr) (k : Nat) (w : World) (hm : w.heap[mb]? = some (.cells #[.slice R r.length k] 27 (0, 0))) (hk : r.length ≤ k) (hR : (Kd.int .i64).C w R r.length r) :
    MakesAt 77 #[.pointer (some ⟨mb, 0, none⟩)] w (rankF r) x := by
  intro A c W hW hc hC
  have HM := Lib.hid ((hW.block mb (blk_lt hm)).trans hm)
  have HCC := Lib.hid hC
  have HCL : Hid (∀ W2, Below W.heap.size W W2 → Calls Tryz.prog 42 #[.agg (exC x A c), .slice R r.length k] W2 (NewE (rankF r x) W2)) := Lib.hid (fun W2 h2 => h A R c k W2 hRt hin hc hk (Kd.C_below hR (hW.trans (h2.mono hW.size))) (Kd.C_below hC h2))
  obtain ⟨y, hy⟩ : ∃ y, rankF r x = y := ⟨_, rfl⟩
  rw [hy] at HCL ⊢
  clear h hRt hin hR hC hm hW hy
  unfold exC at HCL ⊢
  go_enter Tryz.func77, Tryz.ntmps77
  go_upto_region 1 with (first | ((with_reducible refine gate_dst (N := 2) rfl ?_); refine box_event rfl (N := 2) rfl (cs := exC x A c) (t := 26) (by first | rfl | (go_simp; done) | (go_simp; rfl)) ?_; intro g hgg w1 hbg hBg;  have HG := Lib.hid hbg; have HB1 := Lib.hid hBg; clear hgg hbg hBg) | ((with_reducible refine gate_dst (N := 3) rfl ?_); refine box_event rfl (N := 3) rfl (cs := zerosE) (t := 26) (by first | rfl | (go_simp; done) | (go_simp; rfl)) ?_; intro rb hgg w2 hbrb hBrb;  have hrb : w1.heap.size ≤ rb := (by omega); have HR := Lib.hid hbrb; have HB2 := Lib.hid hBrb; clear hgg hbrb hBrb))
  have HB : Hid (Below W.heap.size W w2) := Lib.hid (HB1.out.trans (HB2.out.mono HB1.out.size))
  have hg2 := (HB2.out.block g (blk_lt HG.out)).trans HG.out
  have hm2 := (HB.out.block mb (blk_lt HM.out)).trans HM.out
  obtain ⟨hz0, hz1, hz2, hz3, hz4, hz5, hz6, hz7, hz8⟩ := bkC9 hg2
  have hmc : w2.cell? ⟨mb, 0, none⟩ = some (.slice R r.length k) := (bkC hm2 0).trans rfl
  have HCL2 := Lib.hid (HCL.out w2 HB.out)
  have hr0 := HR.out
  go_wp2_with (go_at_call 42; refine HCL2.out.mono ?_; rintro rr w3 ⟨D, kk, rfl, hkk, hFF, hB3⟩; have hr3 := (hB3.block rb (blk_lt hr0)).trans hr0; have HFF := Lib.hid hFF; have HB3 := Lib.hid hB3; have HR3 := Lib.hid hr3; clear hFF hB3; obtain ⟨hy0, hy1, hy2, hy3, hy4, hy5, hy6, hy7, hy8⟩ := bkC9 hr3; have hf0 := bkF hr3 0; have hf1 := bkF hr3 1; have hf2 := bkF hr3 2; have hf3 := bkF hr3 3; have hf4 := bkF hr3 4; have hf5 := bkF hr3 5; have hf6 := bkF hr3 6; have hf7 := bkF hr3 7; have hf8 := bkF hr3 8; clear hr3; unfold exC)
  refine bodyPost_ret (results_cell_row rfl _ _ rb 26 (exC y D kk) (0, 0) _ rfl (ex_put0 HR3.out y D kk) Tryz.underlying26 rfl (info_ex _ _ _)) rfl ?_
  have hrw : rb < w2.heap.size := blk_lt hr0
  have hB13 : Below W.heap.size W w3 := HB.out.trans (HB3.out.mono HB.out.size)
  refine ⟨D, kk, rfl, hkk, ?_, ex_below hB13 (by have := HB1.out.size; omega) y D kk⟩
  refine Kd.F_mono (Kd.F_step HFF.out (fun b hb hlt => ?_)) (fun b hb => Nat.le_trans HB.out.size hb)
  exact ex_heap (show b ≠ rb by omega) y D kk
set_option maxHeartbeats 4000000 in
set_option maxRecDepth 100000 in
theorem ranked_step (r : List Int) (e : Ex) (ih : ∀ x ∈ e.f6, RankedOk r x) : RankedOk r e := by
  intro A R c k W hRt hin hc hk hR hC
  have hl2 := hRt.len
  rw [inR_eq] at hin
  simp only [Bool.and_eq_true, decide_eq_true_eq] at hin
  obtain ⟨l, hll⟩ : ∃ l, e.f6.map (rankF r) = l := ⟨_, rfl⟩
  have hln : l.length = e.f6.length := by rw [← hll, List.length_map]
  have HY : Hid (rankF r e = ⟨e.f0, e.f1, if e.f0 = 2 then rd r e.f2 else e.f2, e.f3, e.f4, e.f5, l⟩) := Lib.hid (by rw [rankF_eq, hll])
  have HEA : Hid (∀ W2 mb, Below W.heap.size W W2 → W2.heap[mb]? = some (.cells #[.slice R r.length k] 27 (0, 0)) → Calls Tryz.prog 67 #[.slice A e.f6.length c, .func (.func 77) #[] #[.pointer (some ⟨mb, 0, none⟩)]] W2 fun e w' => ∃ v, e = .returned v ∧ Kd.N KX TX w' W2.heap.size (fun k => W2.heap.size ≤ k) v l ∧ Below W2.heap.size W2 w') := Lib.hid (fun W2 mb hB hm => by
    have h := each_ok 77 #[.pointer (some ⟨mb, 0, none⟩)] (rankF r) e.f6 A c W2 (Kd.C_below hC hB) (by omega) hcfR (fun x hx => rank1_ok r x (ih x hx) (hRt.kid hx) (inRL_mem hin.2 hx) mb R k W2 hm hk (Kd.C_below hR hB))
    rw [hll] at h; exact h)
  have HIN := Lib.hid hin.1; have HLN := Lib.hid hln; have HRR := Lib.hid hR
  clear ih hC hll hln hin hR
  obtain ⟨y, hy⟩ : ∃ y, rankF r e = y := ⟨_, rfl⟩
  rw [hy] at HY ⊢
  clear hy
  unfold exC
  go_enter Tryz.func42, Tryz.ntmps42
  go_upto_region 1 with (first | ((with_reducible refine gate_dst (N := 2) rfl ?_); refine box_event rfl (N := 2) rfl (cs := exC e A c) (t := 26) (by first | rfl | (go_simp; done) | (go_simp; rfl)) ?_; intro g hgg w1 hbg hBg;  have hgw : W.heap.size ≤ g := (by omega); have HG := Lib.hid hbg; have HB1 := Lib.hid hBg; clear hgg hbg hBg) | ((with_reducible refine gate_dst (N := 3) rfl ?_); refine box_event rfl (N := 3) rfl (cs := #[.slice R r.length k]) (t := 27) (by first | rfl | (go_simp; done) | (go_simp; rfl)) ?_; intro mb hgg w2 hbmb hBmb;  have hmw : w1.heap.size ≤ mb := (by omega); have HMB := Lib.hid hbmb; have HB2 := Lib.hid hBmb; clear hgg hbmb hBmb) | ((with_reducible refine gate_dst (N := 4) rfl ?_); refine box_event rfl (N := 4) rfl (cs := zerosE) (t := 26) (by first | rfl | (go_simp; done) | (go_simp; rfl)) ?_; intro rb hgg w3 hbrb hBrb;  have hrw : w2.heap.size ≤ rb := (by omega); have HR := Lib.hid hbrb; have HB3 := Lib.hid hBrb; clear hgg hbrb hBrb))
  have HB : Hid (Below W.heap.size W w3) := Lib.hid ((HB1.out.trans (HB2.out.mono HB1.out.size)).trans (HB3.out.mono (Nat.le_trans HB1.out.size HB2.out.size)))
  have hg3 : w3.heap[g]? = some (.cells (exC e A c) 26 (0, 0)) := (HB3.out.block g (Nat.lt_of_lt_of_le (blk_lt HG.out) HB2.out.size)).trans ((HB2.out.block g (blk_lt HG.out)).trans HG.out)
  have hm3 : w3.heap[mb]? = some (.cells #[.slice R r.length k] 27 (0, 0)) := (HB3.out.block mb (blk_lt HMB.out)).trans HMB.out
  have hgm : g ≠ mb := by have := blk_lt HG.out; omega
  have hgr : g ≠ rb := by have := blk_lt HG.out; have := HB2.out.size; omega
  have hmr : mb ≠ rb := by have := blk_lt HMB.out; omega
  have hrw' : W.heap.size ≤ rb := by have := HB1.out.size; have := HB2.out.size; omega
  have HG3 := Lib.hid hg3; have HM3 := Lib.hid hm3; have HR3 := HR
  clear HG HMB HR HB1 HB2 HB3 hmw hrw
  obtain ⟨hz0, hz1, hz2, hz3, hz4, hz5, hz6, hz7, hz8⟩ := bkC9 hg3
  clear hg3 hm3
  by_cases hop : e.f0 = 2
  · obtain ⟨h20, h2n⟩ := HIN.out hop
    obtain ⟨ra, rfl, hrc⟩ := Kd.at_int HRR.out e.f2 h20 h2n
    have hrc3 := pw_cell_below HB.out hrc
    have hm3 := HM3.out
    have hmc : w3.cell? ⟨mb, 0, none⟩ = some (.slice (some ra) r.length k) := (bkC hm3 0).trans rfl
    have hf4 := bkF HG3.out 4
    have HOP : Hid (e.f0 = 2) := Lib.hid hop
    have b0 : (e.f0 == 2) = true := beq_iff_eq.mpr hop
    clear hm3 hrc hop
    go_upto_region 3 with fail
    have hg5s : g < w3.heap.size := blk_lt HG3.out
    have hr3s : rb < w3.heap.size := blk_lt HR3.out
    have HG4 : Hid ((w3.setCell ⟨g, 4, none⟩ (.int .i64 (rd r e.f2))).heap[g]? = some (.cells (exC (⟨e.f0, e.f1, rd r e.f2, e.f3, e.f4, e.f5, e.f6⟩ : Ex) A c) 26 (0, 0))) := Lib.hid ((blk_set HG3.out 4 _).trans rfl)
    have HM4 : Hid ((w3.setCell ⟨g, 4, none⟩ (.int .i64 (rd r e.f2))).heap[mb]? = some (.cells #[.slice (some ra) r.length k] 27 (0, 0))) := Lib.hid ((Below.heap_setCell _ ⟨g, 4, none⟩ _ mb hgm.symm).trans HM3.out)
    have HR4 : Hid ((w3.setCell ⟨g, 4, none⟩ (.int .i64 (rd r e.f2))).heap[rb]? = some (.cells zerosE 26 (0, 0))) := Lib.hid ((Below.heap_setCell _ ⟨g, 4, none⟩ _ rb hgr.symm).trans HR3.out)
    have HB4 : Hid (Below W.heap.size W (w3.setCell ⟨g, 4, none⟩ (.int .i64 (rd r e.f2)))) := Lib.hid (HB.out.setCell (p := ⟨g, 4, none⟩) hgw _)
    have HS4 : Hid ((w3.setCell ⟨g, 4, none⟩ (.int .i64 (rd r e.f2))).heap.size = w3.heap.size) := Lib.hid (by simp [World.setCell])
    clear hz0 hz1 hz2 hz3 hz4 hz5 hz6 hz7 hz8 hmc hf4 hrc3
    generalize w3.setCell ⟨g, 4, none⟩ (.int .i64 (rd r e.f2)) = w4 at HG4 HM4 HR4 HB4 HS4 ⊢
    have hg4 := HG4.out
    have hz8 : w4.cell? ⟨g, 8, none⟩ = some (.slice A e.f6.length c) := (bkC hg4 8).trans rfl
    have HEC := Lib.hid (HEA.out w4 mb HB4.out HM4.out)
    clear hg4 HEA
    go_upto_region 4 with (go_at_call 67; refine HEC.out.mono ?_; rintro rr w5 ⟨v, rfl, hN, hB5⟩; obtain ⟨A5, c5, rfl, hc5, -⟩ := Kd.N_reads hN; have hg5 := (hB5.block g (blk_lt HG4.out)).trans HG4.out; have HG5 := Lib.hid hg5; have HN5 := Lib.hid hN; have HB5 := Lib.hid hB5; have hy8 : w5.cell? ⟨g, 8, none⟩ = some (.slice A e.f6.length c) := (bkC hg5 8).trans rfl; have hf8 := bkF hg5 8; clear hN hB5 hg5)
    clear hz8 hy8 hf8 HEC
    have HG6 : Hid ((w5.setCell ⟨g, 8, none⟩ (.slice A5 l.length c5)).heap[g]? = some (.cells (exC y A5 c5) 26 (0, 0))) := Lib.hid (by
      have h := blk_set HG5.out 8 (.slice A5 l.length c5)
      rw [h, HY.out, if_pos HOP.out]; rfl)
    have HL6 : Hid (y.f6 = l) := Lib.hid (by rw [HY.out])
    have HR6 : Hid ((w5.setCell ⟨g, 8, none⟩ (.slice A5 l.length c5)).heap[rb]? = some (.cells zerosE 26 (0, 0))) := Lib.hid ((Below.heap_setCell _ ⟨g, 8, none⟩ _ rb hgr.symm).trans ((HB5.out.block rb (by rw [HS4.out]; exact hr3s)).trans HR4.out))
    have HB6 : Hid (Below W.heap.size W (w5.setCell ⟨g, 8, none⟩ (.slice A5 l.length c5))) := Lib.hid ((HB4.out.trans (HB5.out.mono HB4.out.size)).setCell (p := ⟨g, 8, none⟩) hgw _)
    have HN6 : Hid (Kd.N KX TX (w5.setCell ⟨g, 8, none⟩ (.slice A5 l.length c5)) w4.heap.size (fun k => w4.heap.size ≤ k) (.slice A5 l.length c5) l) := Lib.hid (Kd.N_far HN5.out (fun k hk => by show k ≠ g; rw [HS4.out] at hk; omega) _)
    have hW4 : W.heap.size ≤ w4.heap.size := HB4.out.size
    generalize w5.setCell ⟨g, 8, none⟩ (.slice A5 l.length c5) = w6 at HG6 HR6 HB6 HN6 ⊢
    have hg6 := HG6.out
    obtain ⟨hu0, hu1, hu2, hu3, hu4, hu5, hu6, hu7, hu8⟩ := bkC9 hg6
    have hr6 := HR6.out
    have hv0 : w6.cell? ⟨rb, 0, none⟩ = some (.int .i64 0) := (bkC hr6 0).trans rfl; have hf0 := bkF hr6 0; have hv1 : w6.cell? ⟨rb, 1, none⟩ = some (.int .i64 0) := (bkC hr6 1).trans rfl; have hf1 := bkF hr6 1; have hv2 : w6.cell? ⟨rb, 2, none⟩ = some (.int .i64 0) := (bkC hr6 2).trans rfl; have hf2 := bkF hr6 2; have hv3 : w6.cell? ⟨rb, 3, none⟩ = some (.string ⟨#[]⟩) := (bkC hr6 3).trans rfl; have hf3 := bkF hr6 3; have hv4 : w6.cell? ⟨rb, 4, none⟩ = some (.int .i64 0) := (bkC hr6 4).trans rfl; have hf4 := bkF hr6 4; have hv5 : w6.cell? ⟨rb, 5, none⟩ = some (.int .i64 0) := (bkC hr6 5).trans rfl; have hf5 := bkF hr6 5; have hv6 : w6.cell? ⟨rb, 6, none⟩ = some (.int .i64 0) := (bkC hr6 6).trans rfl; have hf6 := bkF hr6 6; have hv7 : w6.cell? ⟨rb, 7, none⟩ = some (.string ⟨#[]⟩) := (bkC hr6 7).trans rfl; have hf7 := bkF hr6 7; have hv8 : w6.cell? ⟨rb, 8, none⟩ = some (.slice none 0 0) := (bkC hr6 8).trans rfl; have hf8 := bkF hr6 8
    clear hg6 hr6
    go_wp2_with fail
    have hlc : y.f6.length ≤ c5 := by rw [HL6.out]; exact hc5
    have HFD : Hid (Kd.F KX w6 (fun b => w4.heap.size ≤ b) A5 y.f6.length y.f6) := by
      have h := Kd.N_F HN6.out
      rw [← HL6.out] at h; exact Lib.hid h
    have hend := ex_put0 HR6.out y A5 c5
    refine bodyPost_ret (results_cell_row rfl _ _ rb 26 (exC y A5 c5) (0, 0) _ rfl hend Tryz.underlying26 rfl (info_ex _ _ _)) rfl ?_
    exact ⟨A5, c5, rfl, hlc, Kd.F_mono (Kd.F_step HFD.out (fun b hb hlt => ex_heap (show b ≠ rb by have h : w4.heap.size ≤ b := hb; rw [HS4.out] at h; omega) y A5 c5)) (fun b hb => Nat.le_trans hW4 hb), ex_below HB6.out hrw' y A5 c5⟩
  · have HOP : Hid (¬ e.f0 = 2) := Lib.hid hop
    have b0 : (e.f0 == 2) = false := beq_eq_false_iff_ne.mpr hop
    clear hop
    go_upto_region 3 with fail
    have hg5s : g < w3.heap.size := blk_lt HG3.out
    have hr3s : rb < w3.heap.size := blk_lt HR3.out
    have HG4 : Hid ((w3).heap[g]? = some (.cells (exC e A c) 26 (0, 0))) := Lib.hid (HG3.out)
    have HM4 : Hid ((w3).heap[mb]? = some (.cells #[.slice R r.length k] 27 (0, 0))) := Lib.hid (HM3.out)
    have HR4 : Hid ((w3).heap[rb]? = some (.cells zerosE 26 (0, 0))) := Lib.hid (HR3.out)
    have HB4 : Hid (Below W.heap.size W (w3)) := Lib.hid (HB.out)
    clear hz0 hz1 hz2 hz3 hz4 hz5 hz6 hz7
    have hg4 := HG4.out
    replace hz8 : w3.cell? ⟨g, 8, none⟩ = some (.slice A e.f6.length c) := (bkC hg4 8).trans rfl
    have HEC := Lib.hid (HEA.out w3 mb HB4.out HM4.out)
    clear hg4 HEA
    go_upto_region 4 with (go_at_call 67; refine HEC.out.mono ?_; rintro rr w5 ⟨v, rfl, hN, hB5⟩; obtain ⟨A5, c5, rfl, hc5, -⟩ := Kd.N_reads hN; have hg5 := (hB5.block g (blk_lt HG4.out)).trans HG4.out; have HG5 := Lib.hid hg5; have HN5 := Lib.hid hN; have HB5 := Lib.hid hB5; have hy8 : w5.cell? ⟨g, 8, none⟩ = some (.slice A e.f6.length c) := (bkC hg5 8).trans rfl; have hf8 := bkF hg5 8; clear hN hB5 hg5)
    clear hz8 hy8 hf8 HEC
    have HG6 : Hid ((w5.setCell ⟨g, 8, none⟩ (.slice A5 l.length c5)).heap[g]? = some (.cells (exC y A5 c5) 26 (0, 0))) := Lib.hid (by
      have h := blk_set HG5.out 8 (.slice A5 l.length c5)
      rw [h, HY.out, if_neg HOP.out]; rfl)
    have HL6 : Hid (y.f6 = l) := Lib.hid (by rw [HY.out])
    have HR6 : Hid ((w5.setCell ⟨g, 8, none⟩ (.slice A5 l.length c5)).heap[rb]? = some (.cells zerosE 26 (0, 0))) := Lib.hid ((Below.heap_setCell _ ⟨g, 8, none⟩ _ rb hgr.symm).trans ((HB5.out.block rb (by exact hr3s)).trans HR4.out))
    have HB6 : Hid (Below W.heap.size W (w5.setCell ⟨g, 8, none⟩ (.slice A5 l.length c5))) := Lib.hid ((HB4.out.trans (HB5.out.mono HB4.out.size)).setCell (p := ⟨g, 8, none⟩) hgw _)
    have HN6 : Hid (Kd.N KX TX (w5.setCell ⟨g, 8, none⟩ (.slice A5 l.length c5)) w3.heap.size (fun k => w3.heap.size ≤ k) (.slice A5 l.length c5) l) := Lib.hid (Kd.N_far HN5.out (fun k hk => by show k ≠ g; omega) _)
    have hW4 : W.heap.size ≤ w3.heap.size := HB4.out.size
    generalize w5.setCell ⟨g, 8, none⟩ (.slice A5 l.length c5) = w6 at HG6 HR6 HB6 HN6 ⊢
    have hg6 := HG6.out
    obtain ⟨hu0, hu1, hu2, hu3, hu4, hu5, hu6, hu7, hu8⟩ := bkC9 hg6
    have hr6 := HR6.out
    have hv0 : w6.cell? ⟨rb, 0, none⟩ = some (.int .i64 0) := (bkC hr6 0).trans rfl; have hf0 := bkF hr6 0; have hv1 : w6.cell? ⟨rb, 1, none⟩ = some (.int .i64 0) := (bkC hr6 1).trans rfl; have hf1 := bkF hr6 1; have hv2 : w6.cell? ⟨rb, 2, none⟩ = some (.int .i64 0) := (bkC hr6 2).trans rfl; have hf2 := bkF hr6 2; have hv3 : w6.cell? ⟨rb, 3, none⟩ = some (.string ⟨#[]⟩) := (bkC hr6 3).trans rfl; have hf3 := bkF hr6 3; have hv4 : w6.cell? ⟨rb, 4, none⟩ = some (.int .i64 0) := (bkC hr6 4).trans rfl; have hf4 := bkF hr6 4; have hv5 : w6.cell? ⟨rb, 5, none⟩ = some (.int .i64 0) := (bkC hr6 5).trans rfl; have hf5 := bkF hr6 5; have hv6 : w6.cell? ⟨rb, 6, none⟩ = some (.int .i64 0) := (bkC hr6 6).trans rfl; have hf6 := bkF hr6 6; have hv7 : w6.cell? ⟨rb, 7, none⟩ = some (.string ⟨#[]⟩) := (bkC hr6 7).trans rfl; have hf7 := bkF hr6 7; have hv8 : w6.cell? ⟨rb, 8, none⟩ = some (.slice none 0 0) := (bkC hr6 8).trans rfl; have hf8 := bkF hr6 8
    clear hg6 hr6
    go_wp2_with fail
    have hlc : y.f6.length ≤ c5 := by rw [HL6.out]; exact hc5
    have HFD : Hid (Kd.F KX w6 (fun b => w3.heap.size ≤ b) A5 y.f6.length y.f6) := by
      have h := Kd.N_F HN6.out
      rw [← HL6.out] at h; exact Lib.hid h
    have hend := ex_put0 HR6.out y A5 c5
    refine bodyPost_ret (results_cell_row rfl _ _ rb 26 (exC y A5 c5) (0, 0) _ rfl hend Tryz.underlying26 rfl (info_ex _ _ _)) rfl ?_
    exact ⟨A5, c5, rfl, hlc, Kd.F_mono (Kd.F_step HFD.out (fun b hb hlt => ex_heap (show b ≠ rb by have h : w3.heap.size ≤ b := hb; omega) y A5 c5)) (fun b hb => Nat.le_trans hW4 hb), ex_below HB6.out hrw' y A5 c5⟩
theorem ranked_ok (r : List Int) : ∀ (N : Nat) (e : Ex), SizeOf.sizeOf e < N → RankedOk r e
  | 0, e, h => by omega
  | N + 1, e, h => ranked_step r e (fun x hx => ranked_ok r N x (by
      have h1 := List.sizeOf_lt_of_mem hx
      cases e; simp at h h1 ⊢; omega))
theorem cellq_lt {w : World} {a : Addr} {v : Value} (h : w.cell? a = some v) : a.block < w.heap.size := by
  rcases Nat.lt_or_ge a.block w.heap.size with h' | h'
  · exact h'
  · simp [World.cell?, Array.getElem?_eq_none h'] at h
set_option maxHeartbeats 4000000 in
set_option maxRecDepth 100000 in
theorem of1_ok (xs : List Ex) (r : List Int) (i : Int) (ob pb : Nat) (A R : Option Addr) (c k : Nat) (w : World) (ho : w.cell? ⟨ob, 4, none⟩ = some (.slice A xs.length c)) (hp : w.heap[pb]? = some (.cells #[.slice R r.length k] 27 (0, 0)))
    (hC : Kd.C KX w A xs.length xs) (hR : (Kd.int .i64).C w R r.length r) (h0 : 0 ≤ i) (h1 : i < xs.length) (hk : r.length ≤ k) (hRt : ∀ x ∈ xs, Rt x) (hin : ∀ x, xs[i.toNat]? = some x → inR r x = true) :
    MakesI 41 #[.pointer (some ⟨ob, 0, none⟩), .pointer (some ⟨pb, 0, none⟩)] w (fun i => rankF r (xs.getD i.toNat z26)) i := by
  intro W hW
  obtain ⟨ad, A8, c8, x, rfl, hx, q0, q1, q2, q3, q4, q5, q6, q7, q8, hc8, hC8⟩ := at_ex (Kd.C_below hC hW) rfl i.toNat (by omega)
  have hxm : x ∈ xs := List.mem_of_getElem? hx
  have hxd : xs.getD i.toNat z26 = x := by rw [List.getD_eq_getElem?_getD, hx]; rfl
  show Calls _ _ _ _ (NewE (rankF r (xs.getD i.toNat z26)) W)
  rw [hxd]
  have ho2 := pw_cell_below hW ho
  have hp2 := (hW.block pb (blk_lt hp)).trans hp
  have HP := Lib.hid hp2
  have hwp : pb < W.heap.size := blk_lt hp2
  have hwo : ob < W.heap.size := cellq_lt ho2
  have hwa : (ad.add (i.toNat * 9)).block < W.heap.size := cellq_lt q0
  have HCL : Hid (∀ W2, Below W.heap.size W W2 → Calls Tryz.prog 42 #[.agg #[.int .i64 x.f0, .int .i64 x.f1.f0, .int .i64 x.f1.f1, .string x.f1.f2, .int .i64 x.f2, .int .i64 x.f3, .int .i64 x.f4, .string x.f5, .slice A8 x.f6.length c8], .slice R r.length k] W2 (NewE (rankF r x) W2)) := Lib.hid (fun W2 h2 => ranked_ok r _ x (Nat.lt_succ_self _) A8 R c8 k W2 (hRt x hxm) (hin x hx) hc8 hk (Kd.C_below hR (hW.trans (h2.mono hW.size))) (Kd.C_below hC8 h2))
  obtain ⟨y, hy⟩ : ∃ y, rankF r x = y := ⟨_, rfl⟩
  rw [hy] at HCL ⊢
  obtain ⟨n, hn⟩ : ∃ n, xs.length = n := ⟨_, rfl⟩
  rw [hn] at ho2 h1
  clear hy hn hxd hx hxm hp ho hC hR hC8 hRt hin hp2
  go_enter Tryz.func41, Tryz.ntmps41
  go_upto_region 1 with (first | ((with_reducible refine gate_dst (N := 4) rfl ?_); refine box_event rfl (N := 4) rfl (cs := zerosE) (t := 26) (by first | rfl | (go_simp; done) | (go_simp; rfl)) ?_; intro rb hgg w2 hbrb hBrb;  have hrb : W.heap.size ≤ rb := (by omega); have HR := Lib.hid hbrb; have HB2 := Lib.hid hBrb; clear hgg hbrb hBrb))
  have hpc : W.cell? ⟨pb, 0, none⟩ = some (.slice R r.length k) := (bkC HP.out 0).trans rfl
  have r0 : w2.drew.cell? (ad.add (i.toNat * 9)) = some (.int .i64 x.f0) := pw_cell_below HB2.out q0
  have r1 : w2.drew.cell? ⟨(ad.add (i.toNat * 9)).block, (ad.add (i.toNat * 9)).off + 1, none⟩ = some (.int .i64 x.f1.f0) := pw_cell_below HB2.out q1
  have r2 : w2.drew.cell? ⟨(ad.add (i.toNat * 9)).block, (ad.add (i.toNat * 9)).off + 2, none⟩ = some (.int .i64 x.f1.f1) := pw_cell_below HB2.out q2
  have r3 : w2.drew.cell? ⟨(ad.add (i.toNat * 9)).block, (ad.add (i.toNat * 9)).off + 3, none⟩ = some (.string x.f1.f2) := pw_cell_below HB2.out q3
  have r4 : w2.drew.cell? ⟨(ad.add (i.toNat * 9)).block, (ad.add (i.toNat * 9)).off + 4, none⟩ = some (.int .i64 x.f2) := pw_cell_below HB2.out q4
  have r5 : w2.drew.cell? ⟨(ad.add (i.toNat * 9)).block, (ad.add (i.toNat * 9)).off + 5, none⟩ = some (.int .i64 x.f3) := pw_cell_below HB2.out q5
  have r6 : w2.drew.cell? ⟨(ad.add (i.toNat * 9)).block, (ad.add (i.toNat * 9)).off + 6, none⟩ = some (.int .i64 x.f4) := pw_cell_below HB2.out q6
  have r7 : w2.drew.cell? ⟨(ad.add (i.toNat * 9)).block, (ad.add (i.toNat * 9)).off + 7, none⟩ = some (.string x.f5) := pw_cell_below HB2.out q7
  have r8 : w2.drew.cell? ⟨(ad.add (i.toNat * 9)).block, (ad.add (i.toNat * 9)).off + 8, none⟩ = some (.slice A8 x.f6.length c8) := pw_cell_below HB2.out q8
  have r9 : w2.drew.cell? ⟨ob, 4, none⟩ = some (.slice (some ad) n c) := pw_cell_below HB2.out ho2
  have r10 : w2.drew.cell? ⟨pb, 0, none⟩ = some (.slice R r.length k) := pw_cell_below HB2.out hpc
  have n1 : rb ≠ ob := by omega
  have n2 : rb ≠ pb := by omega
  have n3 : rb ≠ (ad.add (i.toNat * 9)).block := by omega
  have n4 : ob ≠ rb := by omega
  have n5 : pb ≠ rb := by omega
  have n6 : (ad.add (i.toNat * 9)).block ≠ rb := by omega
  have HTR : Hid (∀ Q : Ending → World → Prop, (∀ e w'', (∃ D kk, e = .returned (.agg #[.int .i64 y.f0, .int .i64 y.f1.f0, .int .i64 y.f1.f1, .string y.f1.f2, .int .i64 y.f2, .int .i64 y.f3, .int .i64 y.f4, .string y.f5, .slice D y.f6.length kk]) ∧ y.f6.length ≤ kk ∧ Kd.F KX w'' (fun b => w2.drew.heap.size ≤ b) D y.f6.length y.f6 ∧ Below w2.drew.heap.size w2.drew w'') → Q e w'') → Calls Tryz.prog 42 #[.agg #[.int .i64 x.f0, .int .i64 x.f1.f0, .int .i64 x.f1.f1, .string x.f1.f2, .int .i64 x.f2, .int .i64 x.f3, .int .i64 x.f4, .string x.f5, .slice A8 x.f6.length c8], .slice R r.length k] w2.drew Q) := Lib.hid (fun Q hQ => (HCL.out w2.drew (below_drew HB2.out)).mono hQ)
  have HRd : Hid (w2.drew.heap[rb]? = some (.cells zerosE 26 (0, 0))) := Lib.hid HR.out
  have hrbs : rb < w2.heap.size := blk_lt HR.out
  clear q0 q1 q2 q3 q4 q5 q6 q7 q8 ho2 hpc HCL
  go_region_held3 (fun w' => w'.cell? (ad.add (i.toNat * 9)) = some (.int .i64 x.f0) ∧ w'.cell? ⟨(ad.add (i.toNat * 9)).block, (ad.add (i.toNat * 9)).off + 1, none⟩ = some (.int .i64 x.f1.f0) ∧ w'.cell? ⟨(ad.add (i.toNat * 9)).block, (ad.add (i.toNat * 9)).off + 2, none⟩ = some (.int .i64 x.f1.f1) ∧ w'.cell? ⟨(ad.add (i.toNat * 9)).block, (ad.add (i.toNat * 9)).off + 3, none⟩ = some (.string x.f1.f2) ∧ w'.cell? ⟨(ad.add (i.toNat * 9)).block, (ad.add (i.toNat * 9)).off + 4, none⟩ = some (.int .i64 x.f2) ∧ w'.cell? ⟨(ad.add (i.toNat * 9)).block, (ad.add (i.toNat * 9)).off + 5, none⟩ = some (.int .i64 x.f3) ∧ w'.cell? ⟨(ad.add (i.toNat * 9)).block, (ad.add (i.toNat * 9)).off + 6, none⟩ = some (.int .i64 x.f4) ∧ w'.cell? ⟨(ad.add (i.toNat * 9)).block, (ad.add (i.toNat * 9)).off + 7, none⟩ = some (.string x.f5) ∧ w'.cell? ⟨(ad.add (i.toNat * 9)).block, (ad.add (i.toNat * 9)).off + 8, none⟩ = some (.slice A8 x.f6.length c8) ∧ w'.cell? ⟨ob, 4, none⟩ = some (.slice (some ad) n c) ∧ w'.cell? ⟨pb, 0, none⟩ = some (.slice R r.length k)) (go_keep) (first | (go_at_call 42; with_reducible refine HTR.out _ ?_; rintro rr w3 ⟨D, kk, rfl, hkk, hFF, hB3⟩; have t0 := pw_cell_below hB3 r0; have t1 := pw_cell_below hB3 r1; have t2 := pw_cell_below hB3 r2; have t3 := pw_cell_below hB3 r3; have t4 := pw_cell_below hB3 r4; have t5 := pw_cell_below hB3 r5; have t6 := pw_cell_below hB3 r6; have t7 := pw_cell_below hB3 r7; have t8 := pw_cell_below hB3 r8; have t9 := pw_cell_below hB3 r9; have t10 := pw_cell_below hB3 r10; have hr3 := (hB3.block rb (blk_lt HRd.out)).trans HRd.out; have hy0 : w3.cell? ⟨rb, 0, none⟩ = some (.int .i64 0) := (bkC hr3 0).trans rfl; have hf0 := bkF hr3 0; have hy1 : w3.cell? ⟨rb, 1, none⟩ = some (.int .i64 0) := (bkC hr3 1).trans rfl; have hf1 := bkF hr3 1; have hy2 : w3.cell? ⟨rb, 2, none⟩ = some (.int .i64 0) := (bkC hr3 2).trans rfl; have hf2 := bkF hr3 2; have hy3 : w3.cell? ⟨rb, 3, none⟩ = some (.string ⟨#[]⟩) := (bkC hr3 3).trans rfl; have hf3 := bkF hr3 3; have hy4 : w3.cell? ⟨rb, 4, none⟩ = some (.int .i64 0) := (bkC hr3 4).trans rfl; have hf4 := bkF hr3 4; have hy5 : w3.cell? ⟨rb, 5, none⟩ = some (.int .i64 0) := (bkC hr3 5).trans rfl; have hf5 := bkF hr3 5; have hy6 : w3.cell? ⟨rb, 6, none⟩ = some (.int .i64 0) := (bkC hr3 6).trans rfl; have hf6 := bkF hr3 6; have hy7 : w3.cell? ⟨rb, 7, none⟩ = some (.string ⟨#[]⟩) := (bkC hr3 7).trans rfl; have hf7 := bkF hr3 7; have hy8 : w3.cell? ⟨rb, 8, none⟩ = some (.slice none 0 0) := (bkC hr3 8).trans rfl; have hf8 := bkF hr3 8))
  go_wp2_with fail
  refine bodyPost_ret (results_cell_row rfl _ _ rb 26 (exC y D kk) (0, 0) _ rfl (ex_put0 hr3 y D kk) Tryz.underlying26 rfl (info_ex _ _ _)) rfl ?_
  have hB13 : Below W.heap.size W w3 := HB2.out.trans ((⟨hB3.os, hB3.tape, hB3.output, hB3.size, hB3.block⟩ : Below w2.heap.size w2 w3).mono HB2.out.size)
  refine ⟨D, kk, rfl, hkk, ?_, ex_below hB13 hrb y D kk⟩
  refine Kd.F_mono (Kd.F_step hFF (fun b hb hlt => ?_)) (fun b hb => Nat.le_trans HB2.out.size hb)
  exact ex_heap (show b ≠ rb by have h : w2.heap.size ≤ b := hb; omega) y D kk
end Go.Proofs.YtoffpegppdmkdaaGreatDoor.E
namespace Go.Proofs.YtoffpegppdmkdaaGreatDoor.E
set_option linter.unusedSimpArgs false
set_option linter.unusedVariables false
open Go.RowKit Go.Proofs.YtoffpegppdmkdaaGreatDoorW.PrintWords Go.Proofs.YtoffpegppdmkdaaGreatDoorW.PrintLast Go.Proofs.YtoffpegppdmkdaaGreatDoorW.PrintMore
theorem measL_map {f : Ex → Ex} : ∀ l : List Ex, (∀ x ∈ l, meas (f x) = meas x) → measL (l.map f) = measL l
  | [], _ => rfl
  | x :: l, h => by rw [List.map_cons, measL, measL, h x (.head _), measL_map l (fun y hy => h y (.tail _ hy))]
theorem measL_swap (x y : Ex) : measL [x, y] = measL [y, x] := by
  simp only [measL]
  cases meas x <;> cases meas y <;> simp [Nat.max_comm, Nat.add_comm]
theorem turnV_op (op : Int) (h : ¬ turnV op = 0) : (op = 13 ∧ turnV op = 11) ∨ (op = 14 ∧ turnV op = 12) ∨ ((op = 4 ∨ op = 6 ∨ op = 9 ∨ op = 10 ∨ op = 15 ∨ op = 16) ∧ turnV op = op) := by
  by_cases a1 : op = 13
  · subst a1; exact .inl ⟨rfl, rfl⟩
  by_cases a2 : op = 14
  · subst a2; exact .inr (.inl ⟨rfl, rfl⟩)
  by_cases a3 : op = 4
  · subst a3; exact .inr (.inr ⟨.inl rfl, rfl⟩)
  by_cases a4 : op = 6
  · subst a4; exact .inr (.inr ⟨.inr (.inl rfl), rfl⟩)
  by_cases a5 : op = 9
  · subst a5; exact .inr (.inr ⟨.inr (.inr (.inl rfl)), rfl⟩)
  by_cases a6 : op = 10
  · subst a6; exact .inr (.inr ⟨.inr (.inr (.inr (.inl rfl))), rfl⟩)
  by_cases a7 : op = 15
  · subst a7; exact .inr (.inr ⟨.inr (.inr (.inr (.inr (.inl rfl)))), rfl⟩)
  by_cases a8 : op = 16
  · subst a8; exact .inr (.inr ⟨.inr (.inr (.inr (.inr (.inr rfl)))), rfl⟩)
  exfalso; apply h
  unfold turnV
  rw [if_neg a1, if_neg a2, if_neg a3, if_neg a4, if_neg a5, if_neg a6, if_neg a7, if_neg a8]
theorem turnV_wants (op : Int) (h : ¬ turnV op = 0) : wantsI op = 2 ∧ wantsI (turnV op) = 2 ∧ 4 ≤ op ∧ 4 ≤ turnV op := by
  rcases turnV_op op h with ⟨rfl, h2⟩ | ⟨rfl, h2⟩ | ⟨rfl | rfl | rfl | rfl | rfl | rfl, h2⟩ <;> rw [h2] <;> decide
theorem turnF_cases (op : Int) (l : List Ex) : (turnF op l).1 = (if turnV op = 0 then op else turnV op) ∧ ((turnF op l).2 = l ∨ (turnF op l).2 = l.reverse ∧ ¬ turnV op = 0) := by
  unfold turnF
  by_cases h : turnV op = 0
  · rw [if_pos h, if_pos h]; exact ⟨rfl, .inl rfl⟩
  · rw [if_neg h, if_neg h]
    by_cases h2 : turnV op = op
    · rw [if_pos h2, h2]
      split
      · exact ⟨rfl, .inr ⟨rfl, by rw [← h2]; exact h⟩⟩
      · exact ⟨rfl, .inl rfl⟩
    · rw [if_neg h2]; exact ⟨rfl, .inr ⟨rfl, h⟩⟩
theorem own_norm {e : Ex} (h : ownB e = true) : ownB (normF e) = true := by
  have h2 := (own_iff e).1 h
  refine (own_iff _).2 ?_
  rw [normF_eq]
  obtain ⟨t1, t2⟩ := turnF_cases e.f0 (e.f6.map normF)
  have hl : (turnF e.f0 (e.f6.map normF)).2.length = e.f6.length := by
    rcases t2 with t2 | ⟨t2, _⟩ <;> rw [t2] <;> simp
  unfold ownP at h2 ⊢
  simp only [hl, t1]
  by_cases hz : turnV e.f0 = 0
  · rw [if_pos hz]; exact h2
  · obtain ⟨a, b, c, d⟩ := turnV_wants _ hz
    rw [if_neg hz, if_neg (by omega), if_neg (by omega), if_neg (by omega)]
    rw [if_neg (by omega), if_neg (by omega), if_neg (by omega)] at h2
    exact ⟨h2.1, by rw [b, ← a]; exact h2.2.1, h2.2.2⟩
theorem list_two {l : List Ex} (h : l.length = 2) : ∃ x y, l = [x, y] := by
  match l, h with
  | [x, y], _ => exact ⟨x, y, rfl⟩
theorem meas_norm (e : Ex) : (∃ p, meas e = some p) → meas (normF e) = meas e := by
  induction e using Ex.ind with
  | h e ih =>
    rintro ⟨p, hp⟩
    obtain ⟨ho, q, hq⟩ := meas_own hp
    rw [meas_eq (normF e), if_pos (own_norm ho), meas_eq e, if_pos ho]
    have hk : ∀ x ∈ e.f6, meas (normF x) = meas x := fun x hx => by
      obtain ⟨a, ha, _⟩ := measL_mem e.f6 q hq hx
      exact ih x hx ⟨a, ha⟩
    have hm := measL_map e.f6 hk
    congr 1
    rw [normF_eq]
    simp only []
    rcases (turnF_cases e.f0 (e.f6.map normF)).2 with t | ⟨t, hz⟩
    · rw [t, hm]
    · rw [t]
      have hw := (own_true ho).2
      obtain ⟨x, y, hxy⟩ := list_two (l := e.f6) (by have := (turnV_wants _ hz).1; omega)
      rw [hxy] at hm ⊢
      rw [← hm]
      simp only [List.map_cons, List.map_nil, List.reverse_cons, List.reverse_nil, List.nil_append, List.cons_append]
      exact measL_swap _ _
theorem right_norm {e : Ex} (h : rightB e = true) : rightB (normF e) = true := by
  obtain ⟨p, hp, h1, h2⟩ := small_right.2 h
  exact small_right.1 ⟨p, (meas_norm e ⟨p, hp⟩).trans hp, h1, h2⟩
theorem own_rank {r : List Int} {e : Ex} (hr : ∀ c : Int, e.f0 = 2 → 0 ≤ rd r e.f2 ∧ rd r e.f2 ≤ 15) (h : ownB e = true) : ownB (rankF r e) = true := by
  have h2 := (own_iff e).1 h
  refine (own_iff _).2 ?_
  rw [rankF_eq]
  unfold ownP at h2 ⊢
  simp only [List.length_map]
  by_cases hc : e.f0 = 2
  · have := hr 0 hc
    rw [if_neg (by omega), if_pos hc] at h2
    rw [if_neg (by omega), if_pos hc, if_pos hc]
    exact ⟨h2.1, h2.2.1, this.1, this.2, h2.2.2.2.2⟩
  · rw [if_neg hc]; exact h2
theorem meas_rank {r : List Int} (hr : ∀ j < r.length, 0 ≤ r.getD j 0 ∧ r.getD j 0 ≤ 15) (e : Ex) : (∃ p, meas e = some p) → inR r e = true → meas (rankF r e) = meas e := by
  induction e using Ex.ind with
  | h e ih =>
    rintro ⟨p, hp⟩ hin
    obtain ⟨ho, q, hq⟩ := meas_own hp
    rw [inR_eq, Bool.and_eq_true, decide_eq_true_eq] at hin
    have ho2 : ownB (rankF r e) = true := own_rank (fun _ h2 => by
      obtain ⟨a, b⟩ := hin.1 h2
      have h := hr e.f2.toNat (by omega)
      unfold rd
      simpa using h) ho
    rw [meas_eq (rankF r e), if_pos ho2, meas_eq e, if_pos ho]
    have hk : ∀ x ∈ e.f6, meas (rankF r x) = meas x := fun x hx => by
      obtain ⟨a, ha, _⟩ := measL_mem e.f6 q hq hx
      exact ih x hx ⟨a, ha⟩ (inRL_mem hin.2 hx)
    congr 1
    rw [rankF_eq]
    exact measL_map e.f6 hk
theorem right_rank {r : List Int} (hr : ∀ j < r.length, 0 ≤ r.getD j 0 ∧ r.getD j 0 ≤ 15) {e : Ex} (h : rightB e = true) (hin : inR r e = true) : rightB (rankF r e) = true := by
  obtain ⟨p, hp, h1, h2⟩ := small_right.2 h
  exact small_right.1 ⟨p, (meas_rank hr e ⟨p, hp⟩ hin).trans hp, h1, h2⟩
theorem sameL_eq : ∀ (l m : List Ex), l.length = m.length → sameL l m = true → (∀ x ∈ l, ∀ y ∈ m, sameE x y = true → x = y) → l = m
  | [], m, hl, _, _ => (List.eq_nil_of_length_eq_zero hl.symm).symm
  | x :: l, [], hl, _, _ => by simp at hl
  | x :: l, y :: m, hl, h, hk => by
    rw [sameL, Bool.and_eq_true] at h
    rw [hk x (.head _) y (.head _) h.1, sameL_eq l m (by simpa using hl) h.2 (fun a ha b hb => hk a (.tail _ ha) b (.tail _ hb))]
theorem ba_nil {a b : ByteArray} (h : a.toList = []) (h2 : b.toList = []) : a = b := ba_of (h.trans h2.symm)
theorem same_eq (a : Ex) : (∃ p, meas a = some p) → ∀ b, (∃ q, meas b = some q) → sameE a b = true → a = b := by
  induction a using Ex.ind with
  | h a ih =>
    rintro ⟨p, hp⟩ b ⟨q, hq⟩ h
    obtain ⟨ha, pl, hpl⟩ := meas_own hp
    obtain ⟨hb, ql, hql⟩ := meas_own hq
    rw [sameE_eq] at h
    simp only [Bool.and_eq_true, beq_iff_eq, sameV'] at h
    obtain ⟨⟨h0, ⟨v0, v1, v2⟩, h2, h3, h4, h5⟩, hl⟩ := h
    have h6 := sameL_eq a.f6 b.f6 h5 hl (fun x hx y hy => by
      obtain ⟨c, hc, _⟩ := measL_mem a.f6 pl hpl hx
      obtain ⟨d, hd, _⟩ := measL_mem b.f6 ql hql hy
      exact ih x hx ⟨c, hc⟩ y ⟨d, hd⟩)
    have hs := ba_nil (own_true ha).1 (own_true hb).1
    have hv : a.f1 = b.f1 := by
      have := ba_of v2
      cases a; cases b; rename_i a1 _ _ _ _ _ _ b1 _ _ _ _ _
      cases a1; cases b1; simp_all
    cases a; cases b
    simp_all
theorem text_eq {a b : Ex} (ha : rightB a = true) (hb : rightB b = true) (h : textF a = textF b) : a = b := by
  refine same_eq a (right_some_meas ha) b (right_some_meas hb) ?_
  rw [text_same (right_some_meas ha) (right_some_meas hb), h]
  exact beq_self_eq_true _
theorem tl_right {e : Ex} (h : rightB e = true) : tl e = textF e := by
  unfold tl txt textRes
  rw [if_pos h]
theorem tl_eq {a b : Ex} (ha : rightB a = true) (hb : rightB b = true) (h : tl a = tl b) : a = b := text_eq ha hb (by rw [← tl_right ha, ← tl_right hb, h])
theorem sameT_right {a b : Ex} (ha : rightB a = true) (hb : rightB b = true) : sameT a b = true ↔ a = b := by
  unfold sameT textRes
  rw [if_pos ha, if_pos hb]
  simp only [decide_true, Bool.true_and, beq_iff_eq]
  refine ⟨fun h => tl_eq ha hb ?_, fun h => by rw [h]⟩
  unfold tl
  rw [← ByteArray.toList_eq, ← ByteArray.toList_eq]
  exact h
def Asc (l : List Ex) : Prop := l.Pairwise (fun a b => tl a < tl b)
theorem asc_unique : ∀ (l m : List Ex), Asc l → Asc m → (∀ x, x ∈ l ↔ x ∈ m) → l = m
  | [], [], _, _, _ => rfl
  | [], b :: m, _, _, h => by have := (h b).2 (.head _); cases this
  | a :: l, [], _, _, h => by have := (h a).1 (.head _); cases this
  | a :: l, b :: m, hl, hm, h => by
    have hl2 := List.pairwise_cons.1 hl
    have hm2 := List.pairwise_cons.1 hm
    have hab : a = b := by
      rcases List.mem_cons.1 ((h a).1 (.head _)) with e | ha
      · exact e
      · rcases List.mem_cons.1 ((h b).2 (.head _)) with e | hb
        · exact e.symm
        · exact absurd (l_trans (hl2.1 b hb) (hm2.1 a ha)) (l_irrefl _)
    subst hab
    congr 1
    refine asc_unique l m hl2.2 hm2.2 (fun x => ⟨fun hx => ?_, fun hx => ?_⟩)
    · rcases List.mem_cons.1 ((h x).1 (.tail _ hx)) with e | hx2
      · subst e; exact absurd (hl2.1 x hx) (l_irrefl _)
      · exact hx2
    · rcases List.mem_cons.1 ((h x).2 (.tail _ hx)) with e | hx2
      · subst e; exact absurd (hm2.1 x hx) (l_irrefl _)
      · exact hx2
theorem cAux_asc : ∀ (l : List Ex) (p : Ex), rightB p = true → (∀ x ∈ l, rightB x = true) → (p :: l).Pairwise (fun a b => ¬ tl b < tl a) → Asc (p :: cAux p l) ∧ ∀ x, x ∈ p :: cAux p l ↔ x ∈ p :: l
  | [], p, _, _, _ => ⟨List.pairwise_singleton _ _, fun x => Iff.rfl⟩
  | y :: l, p, hp, hr, h => by
    have hy := hr y (.head _)
    have hrl := fun x hx => hr x (.tail y hx)
    have h2 := List.pairwise_cons.1 h
    have h3 := List.pairwise_cons.1 h2.2
    rw [cAux]
    by_cases hs : sameT y p = true
    · have e := (sameT_right hy hp).1 hs
      subst e
      rw [if_pos hs]
      obtain ⟨a, b⟩ := cAux_asc l y hy hrl h2.2
      refine ⟨a, fun x => ⟨fun hx => .tail _ ((b x).1 hx), fun hx => ?_⟩⟩
      rcases List.mem_cons.1 hx with e | hx
      · rw [e]; exact .head _
      · exact (b x).2 hx
    · rw [if_neg hs]
      obtain ⟨a, b⟩ := cAux_asc l y hy hrl h2.2
      have hlt : tl p < tl y := by
        rcases Classical.em (tl p < tl y) with h4 | h4
        · exact h4
        · exact absurd ((sameT_right hy hp).2 (tl_eq hy hp (l_tot (h2.1 y (.head _)) h4))) hs
      refine ⟨List.pairwise_cons.2 ⟨fun x hx => ?_, a⟩, fun x => ?_⟩
      · rcases List.mem_cons.1 ((b x).1 hx) with e | hx
        · rw [e]; exact hlt
        · rcases Classical.em (tl y < tl x) with h5 | h5
          · exact l_trans hlt h5
          · rw [← l_tot h5 (h3.1 x hx)] ; exact hlt
      · rw [List.mem_cons, b x, List.mem_cons, List.mem_cons]
        rw [List.mem_cons]
theorem compF_asc {ys : List Ex} (hr : ∀ x ∈ ys, rightB x = true) (h : ys.Pairwise (fun a b => ¬ tl b < tl a)) : Asc (compF ys) ∧ ∀ x, x ∈ compF ys ↔ x ∈ ys := by
  cases ys with
  | nil => exact ⟨.nil, fun x => Iff.rfl⟩
  | cons p l => exact cAux_asc l p (hr p (.head _)) (fun x hx => hr x (.tail _ hx)) h
def insT (x : Ex) : List Ex → List Ex
  | [] => [x]
  | y :: l => if tl y < tl x then y :: insT x l else if tl y = tl x then y :: l else x :: y :: l
theorem insT_asc (x : Ex) (hx : rightB x = true) : ∀ l : List Ex, (∀ y ∈ l, rightB y = true) → Asc l → Asc (insT x l) ∧ ∀ z, z ∈ insT x l ↔ z = x ∨ z ∈ l
  | [], _, _ => ⟨List.pairwise_singleton _ _, fun z => by simp [insT]⟩
  | y :: l, hr, h => by
    have h2 := List.pairwise_cons.1 h
    have hy := hr y (.head _)
    obtain ⟨a, b⟩ := insT_asc x hx l (fun z hz => hr z (.tail _ hz)) h2.2
    rw [insT]
    by_cases c1 : tl y < tl x
    · rw [if_pos c1]
      refine ⟨List.pairwise_cons.2 ⟨fun z hz => ?_, a⟩, fun z => ?_⟩
      · rcases (b z).1 hz with e | hz
        · rw [e]; exact c1
        · exact h2.1 z hz
      · rw [List.mem_cons, b z, List.mem_cons]
        constructor
        · rintro (h | h | h)
          · exact .inr (.inl h)
          · exact .inl h
          · exact .inr (.inr h)
        · rintro (h | h | h)
          · exact .inr (.inl h)
          · exact .inl h
          · exact .inr (.inr h)
    · rw [if_neg c1]
      by_cases c2 : tl y = tl x
      · rw [if_pos c2]
        have e := tl_eq hy hx c2
        subst e
        refine ⟨h, fun z => ⟨fun hz => .inr hz, ?_⟩⟩
        rintro (e | hz)
        · rw [e]; exact .head _
        · exact hz
      · rw [if_neg c2]
        have hlt : tl x < tl y := by
          rcases Classical.em (tl x < tl y) with h4 | h4
          · exact h4
          · exact absurd (l_tot c1 h4) c2
        refine ⟨List.pairwise_cons.2 ⟨fun z hz => ?_, h⟩, fun z => List.mem_cons⟩
        rcases List.mem_cons.1 hz with e | hz
        · rw [e]; exact hlt
        · exact l_trans hlt (h2.1 z hz)
def condsA (xs out : List Ex) : List Ex := xs.foldl (fun out x => insT (normF x) out) out
def condsF (xs : List Ex) : List Ex := condsA xs []
theorem condsA_asc : ∀ (xs out : List Ex), (∀ x ∈ xs, rightB x = true) → (∀ y ∈ out, rightB y = true) → Asc out → Asc (condsA xs out) ∧ (∀ z, z ∈ condsA xs out ↔ z ∈ xs.map normF ∨ z ∈ out)
  | [], out, _, _, h => ⟨h, fun z => by simp [condsA]⟩
  | x :: xs, out, hx, hr, h => by
    have hn := right_norm (hx x (.head _))
    obtain ⟨a, b⟩ := insT_asc (normF x) hn out hr h
    obtain ⟨c, d⟩ := condsA_asc xs (insT (normF x) out) (fun y hy => hx y (.tail _ hy)) (fun y hy => by
      rcases (b y).1 hy with e | hy
      · rw [e]; exact hn
      · exact hr y hy) a
    refine ⟨c, fun z => ?_⟩
    show z ∈ condsA xs (insT (normF x) out) ↔ _
    rw [d z, b z, List.map_cons, List.mem_cons]
    constructor
    · rintro (h | h | h)
      · exact .inl (.inr h)
      · exact .inl (.inl h)
      · exact .inr h
    · rintro ((h | h) | h)
      · exact .inr (.inl h)
      · exact .inl h
      · exact .inr (.inr h)
theorem condsF_asc {xs : List Ex} (hx : ∀ x ∈ xs, rightB x = true) : Asc (condsF xs) ∧ ∀ z, z ∈ condsF xs ↔ z ∈ xs.map normF := by
  obtain ⟨a, b⟩ := condsA_asc xs [] hx (fun y hy => by cases hy) .nil
  exact ⟨a, fun z => by rw [show condsF xs = condsA xs [] from rfl, b z]; simp⟩
theorem comp_conds {xs ys : List Ex} (hx : ∀ x ∈ xs, rightB x = true) (h : SortedOf ys (xs.map normF)) : compF ys = condsF xs := by
  have hr : ∀ x ∈ ys, rightB x = true := fun x hx2 => by
    obtain ⟨y, hy, rfl⟩ := List.mem_map.1 (h.1.mem_iff.1 hx2)
    exact right_norm (hx y hy)
  obtain ⟨a, b⟩ := compF_asc hr h.2
  obtain ⟨c, d⟩ := condsF_asc hx
  exact asc_unique _ _ a c (fun z => by rw [b z, d z, h.1.mem_iff])
theorem conds_right {xs : List Ex} (hx : ∀ x ∈ xs, rightB x = true) : ∀ y ∈ condsF xs, rightB y = true := fun y hy => by
  obtain ⟨x, hx2, rfl⟩ := List.mem_map.1 (((condsF_asc hx).2 y).1 hy)
  exact right_norm (hx x hx2)
theorem conds_rng {xs : List Ex} (hx : ∀ x ∈ xs, rightB x = true) (hg : ∀ x ∈ xs, rngF x = true) : ∀ y ∈ condsF xs, rngF y = true := fun y hy => by
  obtain ⟨x, hx2, rfl⟩ := List.mem_map.1 (((condsF_asc hx).2 y).1 hy)
  exact norm_rng (hg x hx2)
theorem insT_len (x : Ex) : ∀ l : List Ex, (insT x l).length ≤ l.length + 1
  | [] => by simp [insT]
  | y :: l => by
    rw [insT]
    split
    · have := insT_len x l; simp only [List.length_cons]; omega
    · split <;> simp
theorem conds_len (xs : List Ex) : (condsF xs).length ≤ xs.length := by
  have h : ∀ (xs out : List Ex), (condsA xs out).length ≤ xs.length + out.length := fun xs => by
    induction xs with
    | nil => intro out; simp [condsA]
    | cons x xs ih =>
      intro out
      have h1 := ih (insT (normF x) out)
      have h2 := insT_len (normF x) out
      show (condsA xs (insT (normF x) out)).length ≤ _
      simp only [List.length_cons]
      omega
  exact h xs []
theorem wraps63 (n : Int) (h0 : 0 ≤ n) (h1 : n < 2 ^ 63) : IntKind.i64.wrap n = n := by rw [IntKind.wrap_i64]; omega
theorem andNot63 (a b : Nat) (ha : a < 65536) (hb : b < 2 ^ 63) : Go.bits .andNot .i64 (a : Int) (b : Int) = ((a &&& (2 ^ 64 - (b + 1)) : Nat) : Int) := by
  have hx : a &&& (2 ^ 64 - (b + 1)) ≤ a := Nat.and_le_left
  show IntKind.i64.wrap ((BitVec.ofInt 64 (a : Int) &&& ~~~BitVec.ofInt 64 (b : Int)).toNat : Int) = _
  have h64 : ∀ n : Nat, n < 2 ^ 64 → (BitVec.ofInt 64 (n : Int)).toNat = n := fun n hn => by
    rw [BitVec.toNat_ofInt]; omega
  rw [BitVec.toNat_and, BitVec.toNat_not, h64 a (by omega), h64 b (by omega), wraps63 _ (by omega) (by
    have e : 2 ^ 64 - 1 - b = 2 ^ 64 - (b + 1) := by omega
    rw [e]; omega)]
  have e : 2 ^ 64 - 1 - b = 2 ^ 64 - (b + 1) := by omega
  rw [e]
theorem sub_bits (a b : Nat) (ha : a < 65536) (hb : b < 2 ^ 63) : Go.bits .andNot .i64 (a : Int) (b : Int) = 0 ↔ ∀ i, a.testBit i = true → b.testBit i = true := by
  rw [andNot63 a b ha hb]
  have hlt : ∀ i, a.testBit i = true → i < 16 := fun i hi => by
    rcases Nat.lt_or_ge i 16 with h | h
    · exact h
    · rw [Nat.testBit_lt_two_pow (Nat.lt_of_lt_of_le (show a < 2 ^ 16 by omega) (Nat.pow_le_pow_right (by decide) h))] at hi; cases hi
  constructor
  · intro h i hi
    have h2 : (a &&& (2 ^ 64 - (b + 1))).testBit i = false := by rw [show a &&& (2 ^ 64 - (b + 1)) = 0 by omega]; exact Nat.zero_testBit i
    rw [Nat.testBit_and, hi, Bool.true_and, Nat.testBit_two_pow_sub_succ (by omega)] at h2
    have := hlt i hi
    simpa [show i < 64 by omega] using h2
  · intro h
    have h2 : a &&& (2 ^ 64 - (b + 1)) = 0 := by
      apply Nat.eq_of_testBit_eq
      intro i
      rw [Nat.testBit_and, Nat.testBit_two_pow_sub_succ (by omega), Nat.zero_testBit]
      cases hi : a.testBit i with
      | false => rfl
      | true => simp [h i hi]
    omega
def inSet (m : Int) (e : Ex) : Bool := decide (m ≥ 0) && (!(tabN e == 0) && Go.bits .andNot .i64 (tabN e) m == 0)
def withI (m : Int) : List Ex → Nat → List Int
  | [], _ => []
  | x :: l, i => if inSet m x = true then (i : Int) :: withI m l (i + 1) else withI m l (i + 1)
theorem tables_f (e : Ex) : expr_Tables.f e.f0 e.f1.f0 e.f1.f1 e.f1.f2 e.f2 e.f3 e.f4 e.f5 e.f6 = some (tabN e) := by
  have he : (⟨e.f0, ⟨e.f1.f0, e.f1.f1, e.f1.f2⟩, e.f2, e.f3, e.f4, e.f5, e.f6⟩ : Ex) = e := by cases e; rfl
  unfold expr_Tables.f
  rw [he]
theorem within_l0 (m : Int) (L : List Ex) (hL : L.length < 9223372036854775807) (hL2 : L.length < 17592186044416) : ∀ (l : List Ex) (j : Nat) (acc : List Int), L.drop j = l → acc.length ≤ j → Ev (fun k => sign_Within.l0 k m acc L (L.length : Int) (j : Int)) (acc ++ withI m l j)
  | [], j, acc, hj, ha => by
    have hl : L.length ≤ j := List.drop_eq_nil_iff.1 hj
    refine Ev.const 1 (fun k => ?_)
    rw [sign_Within.l0, if_neg (by omega), withI, List.append_nil]
  | x :: xs, j, acc, hj, ha => by
    obtain ⟨hx, hl, hr⟩ := rd_drop hj
    have ih0 := within_l0 m L hL hL2 xs (j + 1) acc hr (by omega)
    have ih1 := within_l0 m L hL hL2 xs (j + 1) (acc ++ [(j : Int)]) hr (by simp; omega)
    have hw : wrap64 ((j : Int) + 1) = ((j + 1 : Nat) : Int) := by rw [wrap64_of (x := (j : Int) + 1) (by omega) (by omega)]; rfl
    rw [withI]
    unfold inSet
    by_cases h1 : m ≥ 0
    · by_cases h2 : tabN x = 0
      · simp only [h1, h2, decide_true, beq_self_eq_true, Bool.not_true, Bool.false_and, Bool.and_false, if_false, Bool.false_eq_true]
        refine Ev.steps 1 (fun k => ?_) ih0
        rw [sign_Within.l0, if_pos (by omega), if_pos (by omega), if_pos (by omega), hx, tables_f, Option.bind_some, if_pos h1, if_pos h2, hw]
      · by_cases h3 : Go.bits .andNot .i64 (tabN x) m = 0
        · have e : (decide (m ≥ 0) && (!(tabN x == 0) && Go.bits .andNot .i64 (tabN x) m == 0)) = true := by simp [h1, h2, h3]
          rw [e, if_pos rfl]
          rw [List.append_assoc] at ih1
          refine Ev.steps 1 (fun k => ?_) ih1
          rw [sign_Within.l0, if_pos (by omega), if_pos (by omega), if_pos (by omega), hx, tables_f, Option.bind_some, if_pos h1, if_neg h2, if_pos h3, if_pos (by omega), hw]
        · have e : (decide (m ≥ 0) && (!(tabN x == 0) && Go.bits .andNot .i64 (tabN x) m == 0)) = false := by simp [h3]
          rw [e, if_neg (by decide)]
          refine Ev.steps 1 (fun k => ?_) ih0
          rw [sign_Within.l0, if_pos (by omega), if_pos (by omega), if_pos (by omega), hx, tables_f, Option.bind_some, if_pos h1, if_neg h2, if_neg h3, hw]
    · have e : (decide (m ≥ 0) && (!(tabN x == 0) && Go.bits .andNot .i64 (tabN x) m == 0)) = false := by simp [h1]
      rw [e, if_neg (by decide)]
      refine Ev.steps 1 (fun k => ?_) ih0
      rw [sign_Within.l0, if_pos (by omega), if_pos (by omega), if_pos (by omega), hx, tables_f, Option.bind_some, if_neg h1, hw]
theorem within_ev (m : Int) (L : List Ex) (hL : L.length < 17592186044416) : Ev (fun k => sign_Within.f k L m) (withI m L 0) := within_l0 m L (by omega) hL L 0 [] rfl (Nat.le_refl _)
def sel (m : Int) (cs : List Ex) : List Ex := cs.filter (inSet m)
theorem withI_mem (m : Int) : ∀ (l : List Ex) (j : Nat) (i : Int), i ∈ withI m l j → ∃ q : Nat, i = ((j + q : Nat) : Int) ∧ ∃ h : q < l.length, inSet m l[q] = true
  | [], j, i, h => by cases h
  | x :: l, j, i, h => by
    have hrc : i ∈ withI m l (j + 1) → ∃ q : Nat, i = ((j + q : Nat) : Int) ∧ ∃ h : q < (x :: l).length, inSet m (x :: l)[q] = true := fun h => by
      obtain ⟨q, hq, hl, hs⟩ := withI_mem m l (j + 1) i h
      exact ⟨q + 1, by rw [hq]; omega, by simp; omega, by simpa using hs⟩
    rw [withI] at h
    by_cases hs : inSet m x = true
    · rw [if_pos hs] at h
      rcases List.mem_cons.1 h with e | h
      · exact ⟨0, by rw [e]; rfl, by simp, hs⟩
      · exact hrc h
    · rw [if_neg hs] at h
      exact hrc h
theorem withI_map {β : Type} (m : Int) (L : List Ex) (z : Ex) (F : Ex → β) : ∀ (l : List Ex) (j : Nat), L.drop j = l → (withI m l j).map (fun i => F (L.getD i.toNat z)) = (sel m l).map F
  | [], j, _ => by rfl
  | x :: l, j, hj => by
    obtain ⟨hx, hl, hr⟩ := rd_drop hj
    have hx2 : L.getD j z = x := by
      have h := congrArg (·[0]?) hj
      simp only [List.getElem?_drop, List.getElem?_cons_zero, Nat.add_zero] at h
      rw [List.getD_eq_getElem?_getD, h]; rfl
    have ih := withI_map m L z F l (j + 1) hr
    rw [withI, sel, List.filter_cons]
    by_cases hs : inSet m x = true
    · rw [if_pos hs, if_pos hs, List.map_cons, List.map_cons, ih]
      simp only [Int.toNat_natCast, hx2]; rfl
    · rw [if_neg hs, if_neg hs, ih]; rfl
theorem withI_len (m : Int) : ∀ (l : List Ex) (j : Nat), (withI m l j).length ≤ l.length
  | [], j => Nat.le_refl _
  | x :: l, j => by
    have := withI_len m l (j + 1)
    rw [withI]
    split <;> simp only [List.length_cons] <;> omega
theorem sel_len (m : Int) (cs : List Ex) : (sel m cs).length ≤ cs.length := List.length_filter_le _ _
theorem sel_mem {m : Int} {cs : List Ex} {x : Ex} (h : x ∈ sel m cs) : x ∈ cs ∧ inSet m x = true := List.mem_filter.1 h
theorem msk_bits {e : Ex} (h : Rt e) : ∀ K : Nat, (∀ i, (mskE e).testBit i = true → i < K) → ∀ r : List Int, K ≤ r.length → inR r e = true := by
  induction e using Ex.ind with
  | h e ih =>
    intro K hK r hr
    rw [inR_eq, Bool.and_eq_true, decide_eq_true_eq]
    rw [mskE_eq] at hK
    refine ⟨fun h2 => ?_, ?_⟩
    · obtain ⟨a, b, _⟩ := h.rel h2
      have := hK e.f2.toNat (by rw [Nat.testBit_or, if_pos h2, Nat.testBit_two_pow_self]; rfl)
      omega
    · have hl : ∀ l : List Ex, (∀ x ∈ l, x ∈ e.f6) → (∀ i, (mskL l).testBit i = true → i < K) → inRL r l = true := by
        intro l
        induction l with
        | nil => intro _ _; rw [inRL]
        | cons x l ihl =>
          intro hm hb
          rw [inRL, Bool.and_eq_true]
          rw [mskL] at hb
          exact ⟨ih x (hm x (.head _)) (h.kid (hm x (.head _))) K (fun i hi => hb i (by rw [Nat.testBit_or, hi]; rfl)) r hr, ihl (fun y hy => hm y (.tail _ hy)) (fun i hi => hb i (by rw [Nat.testBit_or, hi]; simp))⟩
      exact hl e.f6 (fun x hx => hx) (fun i hi => hK i (by rw [Nat.testBit_or, hi]; simp))
theorem pow_of_div {m : Int} {K : Nat} (h0 : 0 ≤ m) (h : m / 2 ^ K = 0) : m.toNat < 2 ^ K := by
  obtain ⟨M, rfl⟩ := Int.eq_ofNat_of_zero_le h0
  have h1 : ((M / 2 ^ K : Nat) : Int) = 0 := by rw [← h]; simp
  have h2 : M / 2 ^ K = 0 := by omega
  have h3 : 0 < 2 ^ K := Nat.two_pow_pos K
  rw [Int.toNat_natCast]
  rcases Nat.div_eq_zero_iff.1 h2 with h4 | h4
  · omega
  · exact h4
theorem inR_of {m : Int} {K : Nat} {e : Ex} (hr : rightB e = true) (h0 : 0 ≤ m) (h1 : m < 2 ^ 63) (hK : m / 2 ^ K = 0) (hs : inSet m e = true) (r : List Int) (hrl : K ≤ r.length) : inR r e = true := by
  have hlt := pow_of_div h0 hK
  obtain ⟨M, rfl⟩ := Int.eq_ofNat_of_zero_le h0
  unfold inSet at hs
  simp only [Bool.and_eq_true, beq_iff_eq] at hs
  have h3 := hs.2.2
  rw [tabN_msk hr] at h3
  have h4 := (sub_bits (mskE e) M (msk_lt e (Rt.of hr)) (by omega)).1 h3
  refine msk_bits (Rt.of hr) K (fun i hi => ?_) r hrl
  rcases Nat.lt_or_ge i K with h | h
  · exact h
  · have h5 := h4 i hi
    rw [Nat.testBit_lt_two_pow (Nat.lt_of_lt_of_le (show M < 2 ^ K by simpa using hlt) (Nat.pow_le_pow_right (by decide) h))] at h5
    cases h5
mutual
theorem rank_rng (r : List Int) (hr : ∀ j : Int, -9223372036854775808 ≤ rd r j ∧ rd r j ≤ 9223372036854775807) : (e : Ex) → rngF e = true → rngF (rankF r e) = true
  | ⟨f0, f1, f2, f3, f4, f5, f6⟩, h => by
    rw [rngF, Bool.and_eq_true] at h
    rw [rankF, rngF, Bool.and_eq_true]
    exact ⟨h.1, rankL_rng r hr f6 h.2⟩
theorem rankL_rng (r : List Int) (hr : ∀ j : Int, -9223372036854775808 ≤ rd r j ∧ rd r j ≤ 9223372036854775807) : (l : List Ex) → rngL l = true → rngL (rankL r l) = true
  | [], _ => by rw [rankL, rngL]
  | x :: l, h => by
    rw [rngL, Bool.and_eq_true] at h
    rw [rankL, rngL, Bool.and_eq_true]
    exact ⟨rank_rng r hr x h.1, rankL_rng r hr l h.2⟩
end
def ofT (sz : List Int) (m : Int) (K : Nat) (cs : List Ex) : List UInt8 := headL sz m K ++ tailL (condsF ((sel m cs).map (rankF (rsF m K K))))
theorem rs_small (m : Int) (K : Nat) (hK : K ≤ 4) : ∀ j < (rsF m K K).length, 0 ≤ (rsF m K K).getD j 0 ∧ (rsF m K K).getD j 0 ≤ 15 := by
  intro j hj
  rw [rsF_len] at hj
  rw [rsF_get m K K j hj, if_pos hj]
  have := cntB_le m j
  omega
theorem rs_rng (m : Int) (K : Nat) (hK : K ≤ 4) (j : Int) : -9223372036854775808 ≤ rd (rsF m K K) j ∧ rd (rsF m K K) j ≤ 9223372036854775807 := by
  unfold rd
  have h : ∀ i : Nat, 0 ≤ (rsF m K K).getD i 0 ∧ (rsF m K K).getD i 0 ≤ 15 := fun i => by
    by_cases hi : i < (rsF m K K).length
    · exact rs_small m K hK i hi
    · rw [List.getD_eq_getElem?_getD, List.getElem?_eq_none (by omega)]; decide
  have := h j.toNat
  simp only [List.getD_eq_getElem?_getD] at this ⊢
  omega
theorem ranked_right {m : Int} {K : Nat} {cs : List Ex} (hK : K ≤ 4) (h0 : 0 ≤ m) (h1 : m < 2 ^ 63) (hd : m / 2 ^ K = 0) (hr : ∀ x ∈ cs, rightB x = true) : ∀ x ∈ (sel m cs).map (rankF (rsF m K K)), rightB x = true := by
  intro x hx
  obtain ⟨y, hy, rfl⟩ := List.mem_map.1 hx
  obtain ⟨ha, hb⟩ := sel_mem hy
  exact right_rank (rs_small m K hK) (hr y ha) (inR_of (hr y ha) h0 h1 hd hb _ (by rw [rsF_len]; exact Nat.le_refl _))
theorem ranked_rng {m : Int} {K : Nat} {cs : List Ex} (hK : K ≤ 4) (hg : ∀ x ∈ cs, rngF x = true) : ∀ x ∈ (sel m cs).map (rankF (rsF m K K)), rngF x = true := by
  intro x hx
  obtain ⟨y, hy, rfl⟩ := List.mem_map.1 hx
  exact rank_rng _ (rs_rng m K hK) y (hg y (sel_mem hy).1)
end Go.Proofs.YtoffpegppdmkdaaGreatDoor.E
namespace Go.Proofs.YtoffpegppdmkdaaGreatDoor.E
open Go.RowKit Go.Proofs.YtoffpegppdmkdaaGreatDoorW.PrintWords Go.Proofs.YtoffpegppdmkdaaGreatDoorW.PrintLast Go.Proofs.YtoffpegppdmkdaaGreatDoorW.PrintMore
set_option linter.unusedVariables false
set_option linter.unusedSimpArgs false
def offP (n : Int) (len : Nat) (m : Int) : Prop := n < 1 ∨ 4 < n ∨ (len : Int) < n ∨ m < 1 ∨ m / 2 ^ n.toNat ≠ 0
set_option maxHeartbeats 4000000 in
set_option maxRecDepth 100000 in
theorem of_off (sz d2 : List Int) (n m : Int) (d3 cs d5 d6 d8 d9 : List Ex) (A0 A2 A3 A4 A5 A6 A8 A9 : Option Addr) (c0 c2 c3 c4 c5 c6 c8 c9 : Nat) (b7 b10 : Bool) (w : World) (h : offP n sz.length m) :
    Calls Tryz.prog 17 #[.agg #[.slice A0 sz.length c0, .int .i64 n, .slice A2 d2.length c2, .slice A3 d3.length c3, .slice A4 cs.length c4, .slice A5 d5.length c5, .slice A6 d6.length c6, .bool b7, .slice A8 d8.length c8, .slice A9 d9.length c9, .bool b10], .int .i64 m] w fun r w' => r = .returned (.tuple #[.string ⟨#[]⟩, .int .i64 1]) ∧ Below w.heap.size w w' := by
  obtain ⟨q, hq⟩ : ∃ q, sz.length = q := ⟨_, rfl⟩
  rw [hq] at h ⊢
  have HO := Lib.hid h
  clear h hq
  go_enter Tryz.func17, Tryz.ntmps17
  go_upto_region 1 with (first | ((with_reducible refine gate_dst (N := 2) rfl ?_); refine box_event rfl (N := 2) rfl (cs := #[.slice A0 q c0, .int .i64 n, .slice A2 d2.length c2, .slice A3 d3.length c3, .slice A4 cs.length c4, .slice A5 d5.length c5, .slice A6 d6.length c6, .bool b7, .slice A8 d8.length c8, .slice A9 d9.length c9, .bool b10]) (t := 30) (by first | rfl | (go_simp; done) | (go_simp; rfl)) ?_; intro g hgg w1 hbg hBg;  have HG := Lib.hid hbg; have HB := Lib.hid hBg; clear hgg hbg hBg))
  have hg := HG.out
  have hz0 : w1.cell? ⟨g, 0, none⟩ = some (.slice A0 q c0) := (bkC hg 0).trans rfl; have hz1 : w1.cell? ⟨g, 1, none⟩ = some (.int .i64 n) := (bkC hg 1).trans rfl; have hz2 : w1.cell? ⟨g, 2, none⟩ = some (.slice A2 d2.length c2) := (bkC hg 2).trans rfl; have hz3 : w1.cell? ⟨g, 3, none⟩ = some (.slice A3 d3.length c3) := (bkC hg 3).trans rfl; have hz4 : w1.cell? ⟨g, 4, none⟩ = some (.slice A4 cs.length c4) := (bkC hg 4).trans rfl; have hz5 : w1.cell? ⟨g, 5, none⟩ = some (.slice A5 d5.length c5) := (bkC hg 5).trans rfl; have hz6 : w1.cell? ⟨g, 6, none⟩ = some (.slice A6 d6.length c6) := (bkC hg 6).trans rfl; have hz7 : w1.cell? ⟨g, 7, none⟩ = some (.bool b7) := (bkC hg 7).trans rfl; have hz8 : w1.cell? ⟨g, 8, none⟩ = some (.slice A8 d8.length c8) := (bkC hg 8).trans rfl; have hz9 : w1.cell? ⟨g, 9, none⟩ = some (.slice A9 d9.length c9) := (bkC hg 9).trans rfl; have hz10 : w1.cell? ⟨g, 10, none⟩ = some (.bool b10) := (bkC hg 10).trans rfl
  clear hg
  by_cases h1 : n < 1
  · go_wp2_with fail
    go_ret2
    exact ⟨rfl, HB.out⟩
  by_cases h2 : n > 4
  · go_wp2_with fail
    go_ret2
    exact ⟨rfl, HB.out⟩
  by_cases h3 : (q : Int) < n
  · go_wp2_with fail
    go_ret2
    exact ⟨rfl, HB.out⟩
  by_cases h4 : m < 1
  · go_wp2_with fail
    go_ret2
    exact ⟨rfl, HB.out⟩
  have h5 : ¬ n < 0 := by omega
  have h6 : (m / 2 ^ n.toNat != 0) = true := by
    have h := HO.out
    unfold offP at h
    rcases h with h | h | h | h | h
    · exact absurd h h1
    · exact absurd h (by omega)
    · exact absurd h h3
    · exact absurd h h4
    · exact bne_iff_ne.mpr h
  go_wp2_with fail
  go_ret2
  exact ⟨rfl, HB.out⟩
set_option maxHeartbeats 4000000 in
set_option maxRecDepth 100000 in
theorem of_bad (sz d2 : List Int) (n m : Int) (d3 cs d5 d6 d8 d9 : List Ex) (A0 A2 A3 A4 A5 A6 A8 A9 : Option Addr) (c0 c2 c3 c4 c5 c6 c8 c9 : Nat) (b7 b10 : Bool) (w : World) (h : ¬ offP n sz.length m) (hT : TabW w) (hRg : ∀ x ∈ cs, rngF x = true) (hC : Kd.C KX w A4 cs.length cs) (hl : cs.length * 104 ≤ 140737488351232) (hr : cs.all rightB = false) :
    Calls Tryz.prog 17 #[.agg #[.slice A0 sz.length c0, .int .i64 n, .slice A2 d2.length c2, .slice A3 d3.length c3, .slice A4 cs.length c4, .slice A5 d5.length c5, .slice A6 d6.length c6, .bool b7, .slice A8 d8.length c8, .slice A9 d9.length c9, .bool b10], .int .i64 m] w fun r w' => r = .returned (.tuple #[.string ⟨#[]⟩, .int .i64 1]) ∧ Below w.heap.size w w' := by
  obtain ⟨q, hq⟩ : ∃ q, sz.length = q := ⟨_, rfl⟩
  rw [hq] at h ⊢
  have HO := Lib.hid h
  have HT := Lib.hid hT; have HRG := Lib.hid hRg; have HC := Lib.hid hC; have HRR := Lib.hid hr
  clear h hq hT hRg hC hr
  go_enter Tryz.func17, Tryz.ntmps17
  go_upto_region 1 with (first | ((with_reducible refine gate_dst (N := 2) rfl ?_); refine box_event rfl (N := 2) rfl (cs := #[.slice A0 q c0, .int .i64 n, .slice A2 d2.length c2, .slice A3 d3.length c3, .slice A4 cs.length c4, .slice A5 d5.length c5, .slice A6 d6.length c6, .bool b7, .slice A8 d8.length c8, .slice A9 d9.length c9, .bool b10]) (t := 30) (by first | rfl | (go_simp; done) | (go_simp; rfl)) ?_; intro g hgg w1 hbg hBg;  have HG := Lib.hid hbg; have HB := Lib.hid hBg; clear hgg hbg hBg))
  have hg := HG.out
  have hz0 : w1.cell? ⟨g, 0, none⟩ = some (.slice A0 q c0) := (bkC hg 0).trans rfl; have hz1 : w1.cell? ⟨g, 1, none⟩ = some (.int .i64 n) := (bkC hg 1).trans rfl; have hz2 : w1.cell? ⟨g, 2, none⟩ = some (.slice A2 d2.length c2) := (bkC hg 2).trans rfl; have hz3 : w1.cell? ⟨g, 3, none⟩ = some (.slice A3 d3.length c3) := (bkC hg 3).trans rfl; have hz4 : w1.cell? ⟨g, 4, none⟩ = some (.slice A4 cs.length c4) := (bkC hg 4).trans rfl; have hz5 : w1.cell? ⟨g, 5, none⟩ = some (.slice A5 d5.length c5) := (bkC hg 5).trans rfl; have hz6 : w1.cell? ⟨g, 6, none⟩ = some (.slice A6 d6.length c6) := (bkC hg 6).trans rfl; have hz7 : w1.cell? ⟨g, 7, none⟩ = some (.bool b7) := (bkC hg 7).trans rfl; have hz8 : w1.cell? ⟨g, 8, none⟩ = some (.slice A8 d8.length c8) := (bkC hg 8).trans rfl; have hz9 : w1.cell? ⟨g, 9, none⟩ = some (.slice A9 d9.length c9) := (bkC hg 9).trans rfl; have hz10 : w1.cell? ⟨g, 10, none⟩ = some (.bool b10) := (bkC hg 10).trans rfl
  clear hg
  have h1 : ¬ n < 1 := by have h := HO.out; unfold offP at h; omega
  have h2 : ¬ n > 4 := by have h := HO.out; unfold offP at h; omega
  have h3 : ¬ (q : Int) < n := by have h := HO.out; unfold offP at h; omega
  have h4 : ¬ m < 1 := by have h := HO.out; unfold offP at h; omega
  have h5 : ¬ n < 0 := by omega
  have h6 : (m / 2 ^ n.toNat != 0) = false := by
    have h := HO.out
    unfold offP at h
    exact bne_eq_false_iff_eq.mpr (Classical.byContradiction (fun hn => h (.inr (.inr (.inr (.inr hn))))))
  have HCO : Hid (Calls Tryz.prog 35 #[.slice A4 cs.length c4] w1 fun r w' => r = .returned (.tuple #[.slice none 0 0, .int .i64 1]) ∧ Below w1.heap.size w1 w') := Lib.hid ((Conds_ok cs A4 c4 w1 (tab_at HT.out HB.out) HRG.out (Kd.C_below HC.out HB.out) hl).mono (by
    rintro r w' (⟨_, h, hb⟩ | ⟨h, _⟩)
    · exact ⟨h, hb⟩
    · rw [HRR.out] at h; cases h))
  go_wp2_with (go_at_call 35; refine HCO.out.mono ?_; rintro rr w3 ⟨rfl, hB3⟩; have HB3 := Lib.hid hB3; clear hB3)
  go_ret2
  exact ⟨rfl, HB.out.trans (HB3.out.mono HB.out.size)⟩
theorem itoa_some (n : Int) (h0 : -9223372036854775808 ≤ n) (h1 : n ≤ 9223372036854775807) : ∃ d : ByteArray, d.data.toList = Lib.itoa n ∧ d.size ≤ 21 ∧ ∀ w : World, TabW w →
    Calls Tryz.prog 39 #[.int .i64 n] w fun e w' => e = .returned (.string d) ∧ Below w.heap.size w w' :=
  ⟨⟨(Lib.itoa n).toArray⟩, by simp, by have := itoa_le n h0 h1; simpa [ByteArray.size] using this, fun w hT => itoa_ok n h0 h1 w hT⟩
theorem apart_of {B b : Nat} {bs : List Value} {w w' : World} (h : BdIs B b bs w) (hb : Below w.heap.size w w') : ApartS b (fun k => w.heap.size ≤ k ∧ k < w'.heap.size) w' := by
  have one : ∀ p, Lib.BuilderAt 83 5 B b p bs w → ApartS b (fun k => w.heap.size ≤ k ∧ k < w'.heap.size) w' := by
    rintro p ⟨hB, v, hbk, ho, hne⟩ k hk
    have hlt := blk_lt hbk
    refine ⟨by have := hk.1; omega, fun p2 v2 h2 hv2 => ?_⟩
    rw [hb.block b hlt, hbk] at h2
    have e : v = v2 := (show p = p2 ∧ v = v2 by simpa using h2).2
    subst e
    obtain ⟨c, fz, hc⟩ := ownsRow_kind ho k hv2
    have := blk_lt hc
    have := hk.1
    omega
  exact h.elim (one _) (one _)
structure LEnv (w0 w13 : World) (b : Nat) (S : Nat → Prop) (bs : List UInt8) (w : World) : Prop where
  below : Below w0.heap.size w0 w
  bd : BdIs w0.heap.size b (Lib.byteCells bs) w
  ap : ApartS b S w
  kept : ∀ k, S k → w.heap[k]? = w13.heap[k]?
  size : w13.heap.size ≤ w.heap.size
theorem LEnv.bb {w0 w13 w : World} {b : Nat} {S : Nat → Prop} {bs : List UInt8} (h : LEnv w0 w13 b S bs w) : ∃ p v, w.heap[b]? = some (.cells #[p, v] 83 (0, 0)) := by
  rcases h.bd with ⟨_, v, hb, _⟩ | ⟨_, v, hb, _⟩
  · exact ⟨_, v, hb⟩
  · exact ⟨_, v, hb⟩
theorem LEnv.later {w0 w13 w w' : World} {b n0 : Nat} {bs : List UInt8} (h : LEnv w0 w13 b (fun k => n0 ≤ k ∧ k < w13.heap.size) bs w) (hb : Below w.heap.size w w') : LEnv w0 w13 b (fun k => n0 ≤ k ∧ k < w13.heap.size) bs w' := by
  obtain ⟨p, v, hbb⟩ := h.bb
  exact ⟨h.below.trans (hb.mono h.below.size), bdIs_later h.bd hb, h.ap.later (hb.block b (blk_lt hbb)), fun k hk => (hb.block k (Nat.lt_of_lt_of_le hk.2 h.size)).trans (h.kept k hk), Nat.le_trans h.size hb.size⟩
theorem LEnv.wr {w0 w13 w : World} {b n0 : Nat} {bs : List UInt8} (h : LEnv w0 w13 b (fun k => n0 ≤ k ∧ k < w13.heap.size) bs w) (s : ByteArray) (hl : bs.length + s.size ≤ 140737488355328) :
    Calls Tryz.prog 38 #[.pointer (some ⟨b, 0, none⟩), .string s] w fun r w' => r = .returned (.tuple #[.int .i64 s.size, .nilIface]) ∧ LEnv w0 w13 b (fun k => n0 ≤ k ∧ k < w13.heap.size) (bs ++ s.data.toList) w' :=
  (write_keep w0.heap.size b (Lib.byteCells bs) s (fun k => n0 ≤ k ∧ k < w13.heap.size) w h.bd (by rw [byteCells_length]; exact hl) h.below.size h.ap (fun k hk => Nat.lt_of_lt_of_le hk.2 h.size)).mono (by
    rintro r w' ⟨rfl, h1, h2, h3, h4⟩
    have h1' : BdAt w0.heap.size b (Lib.byteCells (bs ++ s.data.toList)) w' := by rw [byteCells_append]; exact h1
    exact ⟨rfl, h.below.trans h2, .inr h1', h3, fun k hk => (h4 k hk).trans (h.kept k hk), Nat.le_trans h.size h2.size⟩)
set_option maxHeartbeats 8000000 in
set_option maxRecDepth 100000 in
theorem of_good (sz d2 : List Int) (K : Nat) (m : Int) (d3 cs d5 d6 d8 d9 : List Ex) (A0 A2 A3 A4 A5 A6 A8 A9 : Option Addr) (c0 c2 c3 c4 c5 c6 c8 c9 : Nat) (b7 b10 : Bool) (w : World) (h : ¬ offP K sz.length m) (hm63 : m < 2 ^ 63) (hT : TabW w) (hRg : ∀ x ∈ cs, rngF x = true) (hC : Kd.C KX w A4 cs.length cs) (hl : cs.length ≤ 1048576) (hr : cs.all rightB = true)
    (hc4 : cs.length ≤ c4) (hsz : ∀ i : Nat, i < sz.length → -9223372036854775808 ≤ rd sz i ∧ rd sz i ≤ 9223372036854775807) (hC0 : (Kd.int .i64).C w A0 sz.length sz) :
    Calls Tryz.prog 17 #[.agg #[.slice A0 sz.length c0, .int .i64 K, .slice A2 d2.length c2, .slice A3 d3.length c3, .slice A4 cs.length c4, .slice A5 d5.length c5, .slice A6 d6.length c6, .bool b7, .slice A8 d8.length c8, .slice A9 d9.length c9, .bool b10], .int .i64 m] w fun r w' => r = .returned (.tuple #[.string ⟨(ofT sz m K cs).toArray⟩, .int .i64 0]) ∧ Below w.heap.size w w' := by
  have HSZ := Lib.hid hsz; have HC0 := Lib.hid hC0; clear hsz hC0
  obtain ⟨q, hq⟩ : ∃ q, sz.length = q := ⟨_, rfl⟩
  rw [hq] at h HC0 HSZ ⊢
  have HQ := Lib.hid hq
  obtain ⟨n, hn⟩ : ∃ n : Int, (K : Int) = n := ⟨_, rfl⟩
  rw [hn] at h ⊢
  have HN := Lib.hid hn; clear hn
  have HO := Lib.hid h
  have HT := Lib.hid hT; have HRG := Lib.hid hRg; have HC := Lib.hid hC; have HRR := Lib.hid hr
  have HRA : Hid (∀ x ∈ cs, rightB x = true) := Lib.hid (List.all_eq_true.1 hr)
  clear h hq hT hRg hC hr
  go_enter Tryz.func17, Tryz.ntmps17
  go_upto_region 1 with (first | ((with_reducible refine gate_dst (N := 2) rfl ?_); refine box_event rfl (N := 2) rfl (cs := #[.slice A0 q c0, .int .i64 n, .slice A2 d2.length c2, .slice A3 d3.length c3, .slice A4 cs.length c4, .slice A5 d5.length c5, .slice A6 d6.length c6, .bool b7, .slice A8 d8.length c8, .slice A9 d9.length c9, .bool b10]) (t := 30) (by first | rfl | (go_simp; done) | (go_simp; rfl)) ?_; intro g hgg w1 hbg hBg;  have HG := Lib.hid hbg; have HB := Lib.hid hBg; have hwg : w.heap.size ≤ g := (by omega); clear hgg hbg hBg))
  have hg := HG.out
  have hz0 : w1.cell? ⟨g, 0, none⟩ = some (.slice A0 q c0) := (bkC hg 0).trans rfl; have hz1 : w1.cell? ⟨g, 1, none⟩ = some (.int .i64 n) := (bkC hg 1).trans rfl; have hz4 : w1.cell? ⟨g, 4, none⟩ = some (.slice A4 cs.length c4) := (bkC hg 4).trans rfl
  clear hg
  have h1 : ¬ n < 1 := by have h := HO.out; unfold offP at h; omega
  have h2 : ¬ n > 4 := by have h := HO.out; unfold offP at h; omega
  have h3 : ¬ (q : Int) < n := by have h := HO.out; unfold offP at h; omega
  have h4 : ¬ m < 1 := by have h := HO.out; unfold offP at h; omega
  have h5 : ¬ n < 0 := by omega
  have h6 : (m / 2 ^ n.toNat != 0) = false := by
    have h := HO.out
    unfold offP at h
    exact bne_eq_false_iff_eq.mpr (Classical.byContradiction (fun hn => h (.inr (.inr (.inr (.inr hn))))))
  have HCO : Hid (Calls Tryz.prog 35 #[.slice A4 cs.length c4] w1 fun r w' => ∃ v, r = .returned (.tuple #[v, .int .i64 0]) ∧ Below w1.heap.size w1 w') := Lib.hid ((Conds_ok cs A4 c4 w1 (tab_at HT.out HB.out) HRG.out (Kd.C_below HC.out HB.out) (by omega)).mono (by
    rintro r w' (⟨h, _⟩ | ⟨_, v, ys, _, h, _, hb⟩)
    · rw [HRR.out] at h; cases h
    · exact ⟨v, h, hb⟩))
  go_upto_region 4 with (go_at_call 35; refine HCO.out.mono ?_; rintro rr w3 ⟨v3, rfl, hB3⟩; have HB3 := Lib.hid hB3; clear hB3)
  have HB03 : Hid (Below w.heap.size w w3) := Lib.hid (HB.out.trans (HB3.out.mono HB.out.size))
  have HG3 := Lib.hid ((HB3.out.block g (blk_lt HG.out)).trans HG.out)
  clear hz0 hz1 hz4 h6 HCO
  go_upto_region 7 with (first | ((with_reducible refine gate_dst (N := 8) rfl ?_); refine box_event rfl (N := 8) rfl (cs := #[.pointer none, .slice none 0 0]) (t := 83) (by first | rfl | (go_simp; done) | (go_simp; rfl)) ?_; intro b hgg w4 hbb hBb;  have HBB := Lib.hid hbb; have HB4 := Lib.hid hBb; have hwb : w.heap.size ≤ b := (by have := HB03.out.size; omega); clear hgg hbb hBb))
  have HB04 : Hid (Below w.heap.size w w4) := Lib.hid (HB03.out.trans (HB4.out.mono HB03.out.size))
  have HG4 := Lib.hid ((HB4.out.block g (blk_lt HG3.out)).trans HG3.out)
  have hgb : some g ≠ some b := by have h1 := HG4.out; have h2 := HBB.out; intro e; cases e; rw [h1] at h2; simp at h2
  have HBD : Hid (BdIs w.heap.size b (Lib.byteCells []) w4) := Lib.hid (.inl ⟨hwb, _, HBB.out, own_nil _ _ _ _, by simp [Value.ownBlock]⟩)
  have HWR := Lib.hid (write_ok w.heap.size b (Lib.byteCells []) ⟨#[83]⟩ w4 HBD.out (by decide) HB04.out.size)
  clear HBB HB4
  go_upto_region 8 with (go_at_call 38; refine HWR.out.mono ?_; rintro rr w5 ⟨rfl, hb5, hB5, hO5⟩; have HBD5 : Hid (BdAt w.heap.size b (Lib.byteCells [83]) w5) := Lib.hid hb5; have HG5 := Lib.hid (hO5 g _ HG4.out hgb (by intro c fz h; cases h)); have HB05 : Hid (Below w.heap.size w w5) := Lib.hid (HB04.out.trans hB5); clear hb5 hB5 hO5)
  have hg := HG5.out
  have hz0 : w5.cell? ⟨g, 0, none⟩ = some (.slice A0 q c0) := (bkC hg 0).trans rfl; have hz1 : w5.cell? ⟨g, 1, none⟩ = some (.int .i64 n) := (bkC hg 1).trans rfl; have hz4 : w5.cell? ⟨g, 4, none⟩ = some (.slice A4 cs.length c4) := (bkC hg 4).trans rfl
  clear hg HWR HBD hgb
  have HNK : Hid (n.toNat = K) := Lib.hid (by have := HN.out; omega)
  go_upto_region 9 with ((with_reducible refine gate_dst (N := 54) rfl ?_); refine Kd.R_make (Kd.int .i64) (w0 := w) w.heap.size 3 rfl (N := 54) rfl 27 _ _ rfl n rfl rfl Tryz.underlying27 (.int .i64 0) 8 info3 rfl (by decide) (by decide) 0 (ok := fun _ => True) (okp := fun _ => True) rfl (fun _ _ => trivial) trivial (by omega) (by omega) HB05.out HB05.out.size ?_; intro v6 w6 hR6 hB6 hg6 hat6; obtain ⟨R, cR, hv6, hRb, _, _⟩ := Kd.R_form hR6 (by rw [List.length_replicate]; omega); rw [List.length_replicate, HNK.out] at hv6; rw [HNK.out] at hR6; subst hv6; have HR6 := Lib.hid hR6; have HB6 := Lib.hid hB6; have HGR6 := Lib.hid hg6; clear hR6 hB6 hg6 hat6)
  have HGR := Lib.hid ((Below.refl w5.heap.size w5).grown HGR6.out (Nat.le_refl _) (fun k hk => by cases hk))
  have HE : Hid (SEnv w g b w6.heap.size R cR K #[.slice A0 q c0, .int .i64 n, .slice A2 d2.length c2, .slice A3 d3.length c3, .slice A4 cs.length c4, .slice A5 d5.length c5, .slice A6 d6.length c6, .bool b7, .slice A8 d8.length c8, .slice A9 d9.length c9, .bool b10] (rsF m K 0) (headL sz m 0) (w6.alloc (.cells #[.slice (some ⟨R, 0, none⟩) K cR] 27 (0, 0)))) := Lib.hid ⟨blA HB6.out _, bkA ((HGR.out.block g (blk_lt HG5.out)).trans HG5.out) _, heap_alloc_new w6 _, bdIs_later (.inr HBD5.out) (blA HGR.out _), Kd.R_alloc (Kd.R_of_own (Kd.own_of_R HR6.out) (fun k hk => by simpa [Value.ownBlock] using hk.symm)) _, hwg, HB6.out.size⟩
  generalize w6.heap.size = pb at HE ⊢
  generalize w6.alloc (.cells #[.slice (some ⟨R, 0, none⟩) K cR] 27 (0, 0)) = w7 at HE ⊢
  clear HR6 HB6 HGR6 HGR HBD5 HG5 HB05 HG4 HB04 HG3 HB03 HB3 hz0 hz1 hz4
  go_upto_region 10 with fail
  have hg := HE.out.bg
  have hz0 : w7.cell? ⟨g, 0, none⟩ = some (.slice A0 q c0) := (bkC hg 0).trans rfl; have hz1 : w7.cell? ⟨g, 1, none⟩ = some (.int .i64 n) := (bkC hg 1).trans rfl; have hz4 : w7.cell? ⟨g, 4, none⟩ = some (.slice A4 cs.length c4) := (bkC hg 4).trans rfl
  clear hg
  go_upto_region 11 with fail
  go_loopw [10, 57] (fun v10 v57 wr => ∃ i : Nat, i ≤ K ∧ v10 = .int .i64 (cntB m i) ∧ v57 = .int .i64 i ∧ Hid (SEnv w g b pb R cR K #[.slice A0 q c0, .int .i64 n, .slice A2 d2.length c2, .slice A3 d3.length c3, .slice A4 cs.length c4, .slice A5 d5.length c5, .slice A6 d6.length c6, .bool b7, .slice A8 d8.length c8, .slice A9 d9.length c9, .bool b10] (rsF m K i) (headL sz m i) wr)) (fun _ i _ => K - (intOf i).toNat)
  case atStart => exact ⟨0, Nat.zero_le _, rfl, rfl, HE⟩
  case round =>
    obtain ⟨i, hi, rfl, rfl, HI⟩ := hrel
    have hiq : (i : Int) ≤ 4 := by have := HN.out; omega
    have hci := cntB_le m i
    by_cases hlt : i < K
    · have hlt' : (i : Int) < n := by have := HN.out; omega
      have hltK : (i : Int) < (K : Int) := by omega
      have hltq : (i : Int) < (q : Int) := by have := HN.out; omega
      have hp0 : wr.cell? ⟨pb, 0, none⟩ = some (.slice (some ⟨R, 0, none⟩) K cR) := (bkC HI.out.bp 0).trans rfl
      obtain ⟨hc0, hf0⟩ := Kd.R_celln 0 HI.out.rk (i : Int) (by omega) hltK
      rw [show ((i : Int)).toNat = i by omega] at hc0 hf0
      have HP := Lib.hid (HI.out.put i (cntB m i))
      cases hb : bitB m i with
      | false =>
        have hbit : (Go.bits .and .i64 (m / 2 ^ i) 1 == 1) = false := hb
        go_wp2_with fail
        go_roundw
        case rel => exact ⟨i + 1, by omega, by rw [cntB, hb]; rfl, by go_num, by rw [headL, hb, if_neg (by decide), List.append_nil]; exact HP⟩
        case measure => simp [intOf]; omega
      | true =>
        have hbit : (Go.bits .and .i64 (m / 2 ^ i) 1 == 1) = true := hb
        obtain ⟨z0, z1⟩ := HSZ.out i (by omega)
        obtain ⟨d, hd, hds, hdc⟩ := itoa_some (rd sz i) z0 z1
        have HD := Lib.hid hd; have HDC := Lib.hid hdc; clear hd hdc
        obtain ⟨ad, rfl, ha0⟩ := Kd.at_int HC0.out (i : Int) (by omega) hltq
        rw [show ((i : Int)).toNat = i by omega] at ha0
        have hsd : ¬ 9223372036854775807 < d.size + 1 := by omega
        have hln : (headL sz m i).length ≤ 1 + 22 * i := headL_le sz m (fun j hj => HSZ.out j (by rw [← HQ.out]; exact hj)) i (by rw [HQ.out]; omega)
        have HLN := Lib.hid hln; clear hln
        go_upto_region 14 with fail
        generalize wr.setCell ⟨R, i, none⟩ (.int .i64 (cntB m i)) = w8 at HP ⊢
        have ha8 := pw_cell_below HP.out.below ha0
        have hg := HP.out.bg
        have hy0 : w8.cell? ⟨g, 0, none⟩ = some (.slice (some ad) q c0) := (bkC hg 0).trans rfl
        clear hg hc0 hf0 ha0
        have HSL : Hid ((headL sz m i).length + (d ++ ⟨#[32]⟩ : ByteArray).size ≤ 140737488355328) := Lib.hid (by
          have h := HLN.out
          have h2 : (⟨#[32]⟩ : ByteArray).size = 1 := rfl
          rw [ByteArray.size_append, h2]; omega)
        have HIT := Lib.hid (HDC.out w8 (tab_at HT.out HP.out.below))
        go_upto_region 17 with (first
          | (go_at_call 39; refine HIT.out.mono ?_; rintro rr w9 ⟨rfl, hB9⟩; have HP9 := Lib.hid (HP.out.later hB9); have HWR := Lib.hid (HP9.out.wr (d ++ ⟨#[32]⟩) HSL.out); clear hB9)
          | (go_at_call 38; refine HWR.out.mono ?_; rintro rr w10 ⟨rfl, hP10⟩; have HP10 := Lib.hid hP10; clear hP10))
        go_wp2_with fail
        go_roundw
        case rel => exact ⟨i + 1, by omega, by rw [cntB, hb]; rfl, by go_num, by
          have h := HP10.out
          rw [Joins.data_append, HD.out] at h
          rw [headL, hb, if_pos rfl]
          exact Lib.hid h⟩
        case measure => simp [intOf]; omega
    · have hlt' : ¬ (i : Int) < n := by have := HN.out; omega
      obtain rfl : K = i := by omega
      clear hci hiq hi hlt
      have hg := HI.out.bg
      have hz4 : wr.cell? ⟨g, 4, none⟩ = some (.slice A4 cs.length c4) := (bkC hg 4).trans rfl
      clear hg
      obtain ⟨kw, hkw⟩ := (within_ev m cs (by omega)).rounds
      have HWI := Lib.hid (sign_Within.calls kw A4 c4 cs m _ wr (Kd.C_below HC.out HI.out.below) hc4 hkw)
      clear hkw
      have hrs := rs_small m K (by have := HN.out; omega)
      have h0m : 0 ≤ m := by omega
      have hdm : m / 2 ^ K = 0 := by
        have h := HO.out
        unfold offP at h
        rw [HNK.out] at h
        exact Classical.byContradiction (fun hn => h (.inr (.inr (.inr (.inr hn)))))
      have HRK : Hid (∀ x ∈ (sel m cs).map (rankF (rsF m K K)), rightB x = true) := Lib.hid (ranked_right (by have := HN.out; omega) h0m hm63 hdm HRA.out)
      have HRR2 : Hid (∀ x ∈ (sel m cs).map (rankF (rsF m K K)), rngF x = true) := Lib.hid (ranked_rng (by have := HN.out; omega) HRG.out)
      have HIN : Hid (∀ x ∈ cs, inSet m x = true → inR (rsF m K K) x = true) := Lib.hid (fun x hx hs => inR_of (HRA.out x hx) h0m hm63 hdm hs _ (by rw [rsF_len]; exact Nat.le_refl _))
      clear hrs hdm h0m
      have hEW : ∀ w11, Below wr.heap.size wr w11 → ∀ Aw cw, (Kd.int .i64).C w11 Aw (withI m cs 0).length (withI m cs 0) → Calls Tryz.prog 40 #[.slice Aw (withI m cs 0).length cw, .func (.func 41) #[] #[.pointer (some ⟨g, 0, none⟩), .pointer (some ⟨pb, 0, none⟩)]] w11 fun e w' => ∃ v, e = .returned v ∧ Kd.N KX TX w' w11.heap.size (fun k => w11.heap.size ≤ k) v ((sel m cs).map (rankF (rsF m K K))) ∧ Below w11.heap.size w11 w' := by
        intro w11 hB11 Aw cw hCw
        have hE := HI.out.later hB11
        have hgg := hE.bg
        obtain ⟨hrl, hrc, hrC⟩ := Kd.R_reads' hE.rk
        have h := eachI_ok 41 #[.pointer (some ⟨g, 0, none⟩), .pointer (some ⟨pb, 0, none⟩)] (fun i => rankF (rsF m K K) (cs.getD i.toNat z26)) (withI m cs 0) Aw cw w11 hCw (by have := withI_len m cs 0; omega) (fun args W => by go_simp) (fun x hx => by
          obtain ⟨qi, hqi, hql, hqs⟩ := withI_mem m cs 0 x hx
          rw [Nat.zero_add] at hqi
          refine of1_ok cs (rsF m K K) x g pb A4 (some ⟨R, 0, none⟩) c4 cR w11 ((bkC hgg 4).trans rfl) (by rw [← hrl]; exact hE.bp) (Kd.C_below HC.out hE.below) hrC (by omega) (by omega) (by rw [← hrl]; exact hrc) (fun y hy => Rt.of (HRA.out y hy)) (fun y hy => ?_)
          rw [hqi, Int.toNat_natCast, List.getElem?_eq_getElem hql] at hy
          obtain rfl := Option.some.inj hy
          exact HIN.out _ (List.getElem_mem hql) hqs)
        rw [withI_map m cs z26 (rankF (rsF m K K)) cs 0 rfl] at h
        exact h
      have HEW := Lib.hid hEW; clear hEW
      have HWL : Hid ((sel m cs).length ≤ cs.length) := Lib.hid (sel_len m cs)
      go_wp2_with fail
      refine HWI.out.mono ?_
      rintro rr w11 ⟨v11, rfl, hR11, hB11⟩
      obtain ⟨Aw, cw, rfl, hcw, hCw⟩ := Kd.R_reads hR11
      have HE2 := Lib.hid (HEW.out w11 hB11 Aw cw hCw)
      have HP11 := Lib.hid (HI.out.later hB11)
      clear hR11 hB11 hcw hCw HEW HWI hz4 hlt'
      go_wp2_with fail
      refine HE2.out.mono ?_
      rintro rr w12 ⟨v12, rfl, hN12, hB12⟩
      obtain ⟨A12, c12, rfl, hc12, hC12⟩ := Kd.N_reads hN12
      have HP12 := Lib.hid (HP11.out.later hB12)
      have HCD := Lib.hid (Conds_ok _ A12 c12 w12 (tab_at HT.out HP12.out.below) HRR2.out hC12 (by rw [List.length_map]; have := HWL.out; omega))
      clear hN12 hB12 hc12 hC12 HE2 HP11 HI
      obtain ⟨rk, hrk⟩ : ∃ rk, (sel m cs).map (rankF (rsF m K K)) = rk := ⟨_, rfl⟩
      rw [hrk] at HCD HRK HRR2 ⊢
      have HLK : Hid (rk.length ≤ 1048576) := Lib.hid (by rw [← hrk, List.length_map]; have := HWL.out; omega)
      have HTX : Hid (ofT sz m K cs = headL sz m K ++ tailL (condsF rk)) := by show _ = _; unfold ofT; rw [hrk]
      clear hrk HIN HWL
      go_wp2_with fail
      refine HCD.out.mono ?_
      rintro rr w13 (⟨hf, _⟩ | ⟨_, v13, ys, hys, rfl, hN13, hB13⟩)
      · rw [List.all_eq_true.2 HRK.out] at hf; cases hf
      rw [comp_conds HRK.out hys] at hN13
      obtain ⟨l, hL⟩ : ∃ l, condsF rk = l := ⟨_, rfl⟩
      rw [hL] at hN13
      obtain ⟨A13, c13, rfl⟩ := Kd.N_slice hN13
      have HLR : Hid (∀ x ∈ l, rightB x = true) := Lib.hid (by rw [← hL]; exact conds_right HRK.out)
      have HLG : Hid (∀ x ∈ l, rngF x = true) := Lib.hid (by rw [← hL]; exact conds_rng HRK.out HRR2.out)
      have HLL : Hid (l.length ≤ 1048576) := Lib.hid (by rw [← hL]; have h1 := conds_len rk; have h2 := HLK.out; omega)
      rw [hL] at HTX
      have HF13 := Lib.hid (Kd.F_bound (Kd.N_F hN13))
      have HP13 := Lib.hid (HP12.out.later hB13)
      have HAS : Hid (ApartS b (fun k => w12.heap.size ≤ k ∧ k < w13.heap.size) w13) := Lib.hid (apart_of HP12.out.bd hB13)
      clear hN13 hB13 HCD hys hL HRK HRR2 HLK
      have HLN2 : Hid ((headL sz m K).length ≤ 1 + 22 * K) := Lib.hid (headL_le sz m (fun j hj => HSZ.out j (by rw [← HQ.out]; exact hj)) K (by rw [HQ.out]; have := HN.out; omega))
      have hK4 : K ≤ 4 := by have := HN.out; omega
      obtain ⟨hd, hhd⟩ : ∃ hd, headL sz m K = hd := ⟨_, rfl⟩
      rw [hhd] at HLN2 HTX HP13
      obtain ⟨nl, hnl⟩ : ∃ nl, l.length = nl := ⟨_, rfl⟩
      have HNL := Lib.hid hnl
      have hnl2 : nl ≤ 1048576 := by rw [← hnl]; exact HLL.out
      rw [hnl] at HF13 ⊢
      clear hhd hnl HP12
      go_upto_region 21 with fail
      go_loopw [93] (fun v93 wr => ∃ j : Nat, j ≤ nl ∧ v93 = .int .i64 j ∧ Hid (LEnv w w13 b (fun k => w12.heap.size ≤ k ∧ k < w13.heap.size) (hd ++ tailL (l.take j)) wr)) (fun i _ => nl - (intOf i).toNat)
      case atStart => exact ⟨0, Nat.zero_le _, rfl, Lib.hid ⟨HP13.out.below, by simpa [tailL] using HP13.out.bd, HAS.out, fun k _ => rfl, Nat.le_refl _⟩⟩
      case round =>
        obtain ⟨j, hj, rfl, HJ⟩ := hrel
        by_cases hlt : j < nl
        · have hlt' : (j : Int) < nl := by omega
          have HCJ := Lib.hid (Kd.F_now (Kd.F_step HF13.out (fun k hk _ => HJ.out.kept k hk)))
          obtain ⟨ad, A8, c8, x, rfl, HE, h0, h1, h2, h3, h4, h5, h6, h7, h8, hc8, hC8⟩ := at_ex HCJ.out HNL.out j hlt
          replace HE := Lib.hid HE
          have HC8 := Lib.hid hC8; clear hC8
          have hxm : x ∈ l := List.mem_of_getElem? HE.out
          have HTK : Hid (tailL (l.take (j + 1)) = tailL (l.take j) ++ (textF x ++ [59])) := Lib.hid (by rw [List.take_add_one, HE.out]; exact tailL_snoc _ _)
          have HTL : Hid ((tailL (l.take j)).length ≤ 40001 * 1048576) := Lib.hid (by
            have h := tailL_le (l.take j) (fun y hy => ⟨HLR.out y (List.mem_of_mem_take hy), HLG.out y (List.mem_of_mem_take hy)⟩)
            rw [List.length_take] at h
            omega)
          have HXR := Lib.hid (HLR.out x hxm); have HXG := Lib.hid (HLG.out x hxm)
          clear hxm
          go_upto_region 23 with (first | ((with_reducible refine gate_dst (N := 14) rfl ?_); refine box_event rfl (N := 14) rfl (cs := zerosE) (t := 26) (by first | rfl | (go_simp; done) | (go_simp; rfl)) ?_; intro xb hgg w14 hbxb hBxb;  have hxr : wr.heap.size ≤ xb := (by omega); clear hgg) | ((with_reducible refine gate_store (p := 14) (v := .tmp 96) rfl ?_); refine wpList_store_row rfl 26 (.tmp 14) (.tmp 96) rfl xb (exC x A8 c8) rfl rfl 26 zerosE hbxb (info_ex _ _ _) rfl (one_ex _ _ _) ?_))
          clear h0 h1 h2 h3 h4 h5 h6 h7 h8
          have hx8 := setRow_at w14 xb _ zerosE (exC x A8 c8) hbxb
          have hB8 : Below wr.heap.size wr (w14.setRow xb (exC x A8 c8)) := below_setRow' hBxb hxr _
          clear hbxb hBxb
          generalize w14.setRow xb (exC x A8 c8) = w15 at hx8 hB8 ⊢
          obtain ⟨hz0, hz1, hz2, hz3, hz4, hz5, hz6, hz7, hz8⟩ := bkC9 hx8
          have HJ15 := Lib.hid (HJ.out.later hB8)
          have HTX2 := Lib.hid (text_ok x A8 c8 w15 (tab_at HT.out HJ15.out.below) HXG.out (Kd.C_below HC8.out hB8) hc8)
          have HB8 := Lib.hid hB8; clear hB8 hx8
          obtain ⟨tb, htb⟩ : ∃ tb, txt x = tb := ⟨_, rfl⟩
          have HTB : Hid (tb.data.toList = textF x) := by show _ = _; rw [← htb]; exact tl_right HXR.out
          have htl : tb.size ≤ 40000 := by rw [show tb.size = tb.data.toList.length by rw [Array.length_toList]; rfl, HTB.out]; exact text_short HXR.out HXG.out
          rw [htb] at HTX2
          have hsz2 : ¬ 9223372036854775807 < tb.size + 1 := by omega
          have HSL2 : Hid ((hd ++ tailL (l.take j)).length + (tb ++ ⟨#[59]⟩ : ByteArray).size ≤ 140737488355328) := Lib.hid (by
            have h := HLN2.out
            have h3 := HTL.out
            have h2 : (⟨#[59]⟩ : ByteArray).size = 1 := rfl
            rw [ByteArray.size_append, h2, List.length_append]; omega)
          clear htb
          unfold exC at HTX2
          go_wp2_with fail
          refine HTX2.out.mono ?_
          rintro rr w16 ⟨rfl, hB16⟩
          have HJ16 := Lib.hid (HJ15.out.later hB16)
          have HWR2 := Lib.hid (HJ16.out.wr (tb ++ ⟨#[59]⟩) HSL2.out)
          clear hB16 HTX2
          go_wp2_with fail
          refine HWR2.out.mono ?_
          rintro rr w17 ⟨rfl, hJ17⟩
          have HJ17 := Lib.hid hJ17
          clear hJ17
          go_wp2_with fail
          go_roundw
          case rel => exact ⟨j + 1, by omega, by go_num, by
            have h := HJ17.out
            rw [Joins.data_append, HTB.out] at h
            rw [HTK.out]
            rw [List.append_assoc] at h
            exact Lib.hid h⟩
          case measure => simp [intOf]; omega
        · have hlt' : ¬ (j : Int) < nl := by omega
          obtain rfl : nl = j := by omega
          have hfull : hd ++ tailL (l.take nl) = ofT sz m K cs := by rw [HTX.out, ← HNL.out, List.take_length]
          rw [hfull] at HJ
          have HST := Lib.hid (Tryz.Builder_String_any w.heap.size b (ofT sz m K cs) wr HJ.out.bd HJ.out.below.size)
          have HBJ := Lib.hid HJ.out.below
          clear hfull HJ
          go_wp2_with fail
          refine HST.out.mono ?_
          rintro rr w18 ⟨rfl, hB18⟩
          have HB18 := Lib.hid hB18; clear hB18
          go_wp2_with fail
          go_ret2
          exact ⟨rfl, HBJ.out.trans HB18.out⟩
instance offDec (n : Int) (len : Nat) (m : Int) : Decidable (offP n len m) := by unfold offP; infer_instance
def ofRes (sz : List Int) (n m : Int) (cs : List Ex) : ByteArray × Int := if offP n sz.length m ∨ cs.all rightB = false then (⟨#[]⟩, 1) else (⟨(ofT sz m n.toNat cs).toArray⟩, 0)
theorem Of_ok (sz d2 : List Int) (n m : Int) (d3 cs d5 d6 d8 d9 : List Ex) (A0 A2 A3 A4 A5 A6 A8 A9 : Option Addr) (c0 c2 c3 c4 c5 c6 c8 c9 : Nat) (b7 b10 : Bool) (w : World) (hm63 : m < 2 ^ 63) (hT : TabW w) (hRg : ∀ x ∈ cs, rngF x = true) (hC : Kd.C KX w A4 cs.length cs) (hl : cs.length ≤ 1048576)
    (hc4 : cs.length ≤ c4) (hsz : ∀ i : Nat, i < sz.length → -9223372036854775808 ≤ rd sz i ∧ rd sz i ≤ 9223372036854775807) (hC0 : (Kd.int .i64).C w A0 sz.length sz) :
    Calls Tryz.prog 17 #[.agg #[.slice A0 sz.length c0, .int .i64 n, .slice A2 d2.length c2, .slice A3 d3.length c3, .slice A4 cs.length c4, .slice A5 d5.length c5, .slice A6 d6.length c6, .bool b7, .slice A8 d8.length c8, .slice A9 d9.length c9, .bool b10], .int .i64 m] w fun r w' => r = .returned (.tuple #[.string (ofRes sz n m cs).1, .int .i64 (ofRes sz n m cs).2]) ∧ Below w.heap.size w w' := by
  unfold ofRes
  by_cases h : offP n sz.length m
  · rw [if_pos (.inl h)]
    exact of_off sz d2 n m d3 cs d5 d6 d8 d9 A0 A2 A3 A4 A5 A6 A8 A9 c0 c2 c3 c4 c5 c6 c8 c9 b7 b10 w h
  · cases hr : cs.all rightB with
    | false =>
      rw [if_pos (.inr rfl)]
      exact of_bad sz d2 n m d3 cs d5 d6 d8 d9 A0 A2 A3 A4 A5 A6 A8 A9 c0 c2 c3 c4 c5 c6 c8 c9 b7 b10 w h hT hRg hC (by omega) hr
    | true =>
      rw [if_neg (by rintro (h2 | h2); exact h h2; cases h2)]
      have hn : (n.toNat : Int) = n := by have h2 := h; unfold offP at h2; omega
      have hg := of_good sz d2 n.toNat m d3 cs d5 d6 d8 d9 A0 A2 A3 A4 A5 A6 A8 A9 c0 c2 c3 c4 c5 c6 c8 c9 b7 b10 w (by rw [hn]; exact h) hm63 hT hRg hC hl hr hc4 hsz hC0
      rw [hn] at hg
      exact hg
end Go.Proofs.YtoffpegppdmkdaaGreatDoor.E
namespace Go.Proofs.YtoffpegppdmkdaaGreatDoor.E
set_option linter.unusedSimpArgs false
set_option linter.unusedVariables false
open Go.RowKit Go.Proofs.YtoffpegppdmkdaaGreatDoorW.PrintWords Go.Proofs.YtoffpegppdmkdaaGreatDoorW.PrintLast Go.Proofs.YtoffpegppdmkdaaGreatDoorW.PrintMore
theorem setRow_far (w : World) {g k : Nat} {o : Obj} (hn : ¬ g = k) (h : w.heap[k]? = some o) (cs : Array Value) : (w.setRow g cs).heap[k]? = some o := by
  unfold World.setRow
  show (Array.modify _ _ _)[k]? = _
  rw [Array.getElem?_modify, if_neg hn]; exact h
def refE (a b : Int) : Ex := ⟨2, zeroV, a, b, 0, ⟨#[]⟩, []⟩
def twoE (op : Int) (a b : Ex) : Ex := ⟨op, zeroV, 0, 0, 0, ⟨#[]⟩, [a, b]⟩
theorem itoa_one (n : Nat) (h : n < 10) : Lib.itoa n = [UInt8.ofNat (48 + n)] := by
  unfold Lib.itoa
  rw [if_neg (by omega), Int.toNat_natCast]
  exact Lib.decDigits_one (i := n) (by omega)
theorem norm_leaf {e : Ex} (h : turnV e.f0 = 0) (h6 : e.f6 = []) : normF e = e := by
  rw [normF_eq, h6]
  unfold turnF
  rw [if_pos h]
  cases e
  simp at h6
  subst h6
  rfl
theorem ints_C {w : World} {g : Nat} {fz : Nat × Nat} (xs : List Int) (h : w.heap[g]? = some (.cells (xs.map (Value.int .i64)).toArray 3 fz)) (hl : xs.length ≤ 4611686018427387904) : (Kd.int .i64).C w (some ⟨g, 0, none⟩) xs.length xs := by
  refine ⟨rfl, by omega, fun _ => ⟨_, rfl, ?_⟩⟩
  intro j p hp
  refine ⟨[.int .i64 p], rfl, rfl, fun i u hu => ?_⟩
  have hi : i = 0 := by
    have := (List.getElem?_eq_some_iff.1 hu).1
    simpa using this
  subst hi
  have hu' := Option.some.inj hu
  subst hu'
  rw [add_plain]
  show w.cell? ⟨g, j * 1 + 0, none⟩ = _
  simp only [Nat.mul_one, Nat.add_zero]
  simp [World.cell?, h, hp]
theorem ad_block (a : Addr) (k : Nat) : (a.add k).block = a.block := by unfold Addr.add; split <;> rfl
theorem ad_off (a : Addr) (k : Nat) : (a.add k).off = a.off + k := by unfold Addr.add; split <;> simp_all
theorem ex1_C {w : World} {g : Nat} {a : Ex} {Aa : Option Addr} {ca : Nat} (h : w.heap[g]? = some (.cells (exC a Aa ca) 26 (0, 0))) (ha : a.f6.length ≤ ca) (hA : Kd.C KX w Aa a.f6.length a.f6) : Kd.C KX w (some ⟨g, 0, none⟩) 1 [a] := by
  refine ⟨rfl, by simp, fun _ => ⟨_, rfl, ?_⟩⟩
  intro j p hp
  match j, hp with
  | 0, hp =>
    obtain rfl := Option.some.inj hp
    refine ⟨_, rfl, k26_mk w a ha hA, ?_⟩
    intro i u hu
    have hi : i < 9 := by
      have := (List.getElem?_eq_some_iff.1 hu).1; simpa using this
    obtain rfl | rfl | rfl | rfl | rfl | rfl | rfl | rfl | rfl : i = 0 ∨ i = 1 ∨ i = 2 ∨ i = 3 ∨ i = 4 ∨ i = 5 ∨ i = 6 ∨ i = 7 ∨ i = 8 := by omega
    all_goals (have hu' := Option.some.inj hu; subst hu'; rw [add_plain])
    · exact (bkC h 0).trans rfl
    · exact (bkC h 1).trans rfl
    · exact (bkC h 2).trans rfl
    · exact (bkC h 3).trans rfl
    · exact (bkC h 4).trans rfl
    · exact (bkC h 5).trans rfl
    · exact (bkC h 6).trans rfl
    · exact (bkC h 7).trans rfl
    · exact (bkC h 8).trans rfl
end Go.Proofs.YtoffpegppdmkdaaGreatDoor.E
