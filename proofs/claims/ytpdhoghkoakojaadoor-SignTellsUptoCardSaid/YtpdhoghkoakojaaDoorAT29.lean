/- Contracts and plain lemmas of the functions that the law reaches, part 29. -/
import Derived.Test.YtpdhoghkoakojaaDoorAT28
namespace Go.Proofs.YtpdhoghkoakojaaDoor.E
set_option linter.unusedSimpArgs false
set_option linter.unusedVariables false
open Go.RowKit Go.Proofs.YtpdhoghkoakojaaDoorW.PrintWords Go.Proofs.YtpdhoghkoakojaaDoorW.PrintLast Go.Proofs.YtpdhoghkoakojaaDoorW.PrintMore
theorem ba_two (a b : List UInt8) : (⟨a.toArray⟩ : ByteArray) ++ (⟨b.toArray⟩ : ByteArray) = ⟨(a ++ b).toArray⟩ := ba_app _ a b (ba_mk a)
theorem of_l2 (L : List Ex) (hL : L.length ≤ 1048576) (hp : ∀ x ∈ L, rightB x = true ∧ rngF x = true) : ∀ (l : List Ex) (j : Nat) (bs : List UInt8), L.drop j = l → bs.length + 40001 * l.length ≤ 1152921504606846976 → Ev (fun k => q12_Of.l2 k ⟨bs.toArray⟩ L (j : Int)) (⟨(bs ++ tailL l).toArray⟩, true)
  | [], j, bs, hj, hb => by
    have hl : L.length ≤ j := List.drop_eq_nil_iff.1 hj
    refine Ev.const 1 (fun k => ?_)
    rw [q12_Of.l2, if_neg (by omega), tailL, List.append_nil]
  | x :: xs, j, bs, hj, hb => by
    obtain ⟨hx, hl, hr⟩ := rd_drop hj
    have hm : x ∈ L := List.mem_of_mem_drop (i := j) (by rw [hj]; exact .head _)
    have hxx := hp x hm
    have ht := text_short hxx.1 hxx.2
    simp only [List.length_cons] at hb
    have ih := of_l2 L hL hp xs (j + 1) (bs ++ (textF x ++ [59])) hr (by simp only [List.length_append, List.length_cons, List.length_nil]; omega)
    have he : ((⟨bs.toArray⟩ : ByteArray) ++ textS x) ++ (⟨#[59]⟩ : ByteArray) = ⟨(bs ++ (textF x ++ [59])).toArray⟩ := by
      show ((⟨bs.toArray⟩ : ByteArray) ++ (⟨(textF x).toArray⟩ : ByteArray)) ++ (⟨[59].toArray⟩ : ByteArray) = _
      rw [ba_two, ba_two, List.append_assoc]
    have h1 : (⟨bs.toArray⟩ : ByteArray).size = bs.length := ba_size _
    have h2 : (textS x).size = (textF x).length := ba_size _
    have hw : wrap64 ((j : Int) + 1) = ((j + 1 : Nat) : Int) := by rw [wrap64_of (x := (j : Int) + 1) (by omega) (by omega)]; rfl
    rw [List.append_assoc, List.append_assoc] at ih
    refine Ev.steps 1 (fun k => ?_) ih
    rw [q12_Of.l2, if_pos (by omega), if_pos (by omega), hx, print_f (prB_of hxx.1 hxx.2), Option.bind_some, if_pos (by omega), if_pos (by rw [ByteArray.size_append]; omega), he, hw]
theorem of_l1 (m : Int) (K : Nat) (hK : K ≤ 64) (bs : ByteArray) (T : List Int) (sz : List Int) (n : Int) (d2 : List Int) (d3 cs d5 d6 d8 : List Ex) (d9 : List S144) (b7 b10 : Bool) (hT : T.length ≤ 1048576) (hcs : cs.length ≤ 1048576)
    (hI : ∀ i ∈ T, ∃ q : Nat, i = (q : Int) ∧ ∃ h : q < cs.length, Rt cs[q] ∧ inR (rsF m K K) cs[q] = true) (R : ByteArray × Bool)
    (hR : Ev (fun k => (q12_Conds.f k (T.map (fun i => rankF (rsF m K K) (rd_T26 cs i)))).bind fun t => q12_Of.l2 k bs t.1 0) R) : ∀ (l : List Int) (j : Nat) (acc : List Ex), T.drop j = l → acc = (T.take j).map (fun i => rankF (rsF m K K) (rd_T26 cs i)) → Ev (fun k => q12_Of.l1 k m bs acc T (j : Int) sz n d2 d3 cs d5 d6 b7 d8 d9 b10) R
  | [], j, acc, hj, ha => by
    have hl : T.length ≤ j := List.drop_eq_nil_iff.1 hj
    rw [List.take_of_length_le hl] at ha
    subst ha
    refine Ev.steps 1 (fun k => ?_) hR
    rw [q12_Of.l1, if_neg (by omega)]
  | i :: l, j, acc, hj, ha => by
    have hl : j < T.length := by
      rcases Nat.lt_or_ge j T.length with h | h
      · exact h
      · rw [List.drop_of_length_le h] at hj; cases hj
    have hr : T.drop (j + 1) = l := by rw [← List.drop_drop, hj]; rfl
    have hq : T[j]? = some i := by
      have h := congrArg (·[0]?) hj
      simpa using h
    have hrd : rd T (j : Int) = i := by unfold rd; simp [hq]
    obtain ⟨q, rfl, hqc, hrt, hin⟩ := hI i (List.mem_of_getElem? hq)
    have hx : rd_T26 cs (q : Int) = cs[q] := by
      unfold rd_T26; simp [hqc]
    have ih := of_l1 m K hK bs T sz n d2 d3 cs d5 d6 d8 d9 b7 b10 hT hcs hI R hR l (j + 1) (acc ++ [rankF (rsF m K K) cs[q]]) hr (by
      rw [List.take_add_one, hq, List.map_append, ← ha, ← hx]; rfl)
    have hw : wrap64 ((j : Int) + 1) = ((j + 1 : Nat) : Int) := by rw [wrap64_of (x := (j : Int) + 1) (by omega) (by omega)]; rfl
    have hal : acc.length < 1353245080339 := by rw [ha, List.length_map, List.length_take]; omega
    obtain ⟨x, hxe⟩ : ∃ x, cs[q] = x := ⟨_, rfl⟩
    rw [hxe] at hx hrt hin ih
    refine Ev.steps 1 (f := fun k => (q12_ranked.f k x.f0 x.f1.f0 x.f1.f1 x.f1.f2 x.f2 x.f3 x.f4 x.f5 x.f6 m).bind fun t => q12_Of.l1 k m bs (acc ++ [unflat t]) T ((j + 1 : Nat) : Int) sz n d2 d3 cs d5 d6 b7 d8 d9 b10) (fun k => ?_) ?_
    · rw [q12_Of.l1, if_pos (by omega), if_pos (by omega), hrd, if_pos (by omega), if_pos (by omega), hx, hw]
      simp only [if_pos hal]
      rfl
    · refine Ev.bind (ranked_ev m K hK x hrt hin) ?_
      rw [unflat_flat]
      exact ih
theorem of_l0 (m : Int) (K : Nat) (hK : K ≤ 4) (sz : List Int) (d2 : List Int) (d3 cs d5 d6 d8 : List Ex) (d9 : List S144) (b7 b10 : Bool) (hKs : K ≤ sz.length) (hsz : ∀ i : Nat, i < sz.length → -9223372036854775808 ≤ rd sz i ∧ rd sz i ≤ 9223372036854775807) (n : Int) (hn : n = (K : Int)) (R : ByteArray × Bool)
    (hR : Ev (fun k => (q12_Within.f k cs m).bind fun t => q12_Of.l1 k m ⟨(headL sz m K).toArray⟩ [] t 0 sz n d2 d3 cs d5 d6 b7 d8 d9 b10) R) : ∀ (d j : Nat), j + d = K → Ev (fun k => q12_Of.l0 k m ⟨(headL sz m j).toArray⟩ (j : Int) sz n d2 d3 cs d5 d6 b7 d8 d9 b10) R
  | 0, j, hj => by
    obtain rfl : j = K := by omega
    refine Ev.steps 1 (fun k => ?_) hR
    rw [q12_Of.l0, if_neg (by omega)]
  | d + 1, j, hj => by
    have ih := of_l0 m K hK sz d2 d3 cs d5 d6 d8 d9 b7 b10 hKs hsz n hn R hR d (j + 1) (by omega)
    have hw : wrap64 ((j : Int) + 1) = ((j + 1 : Nat) : Int) := by rw [wrap64_of (x := (j : Int) + 1) (by omega) (by omega)]; rfl
    have hh := headL_le sz m hsz j (by omega)
    obtain ⟨r1, r2⟩ := hsz j (by omega)
    have hi := itoa_le (rd sz j) r1 r2
    rw [headL] at ih
    by_cases hb : bitB m j = true
    · rw [if_pos hb] at ih
      have he : ((⟨(headL sz m j).toArray⟩ : ByteArray) ++ ⟨(Lib.itoa (rd sz j)).toArray⟩) ++ (⟨#[32]⟩ : ByteArray) = ⟨(headL sz m j ++ (Lib.itoa (rd sz j) ++ [32])).toArray⟩ := by
        show ((⟨(headL sz m j).toArray⟩ : ByteArray) ++ ⟨(Lib.itoa (rd sz j)).toArray⟩) ++ (⟨[32].toArray⟩ : ByteArray) = _
        rw [ba_two, ba_two, List.append_assoc]
      have h1 : (⟨(headL sz m j).toArray⟩ : ByteArray).size = (headL sz m j).length := ba_size _
      have h2 : (⟨(Lib.itoa (rd sz j)).toArray⟩ : ByteArray).size = (Lib.itoa (rd sz j)).length := ba_size _
      refine Ev.steps 1 (f := fun k => (q08_Digits.f k (rd sz j)).bind fun t => (if (⟨(headL sz m j).toArray⟩ : ByteArray).size + t.size ≤ 9223372036854775807 then (if ((⟨(headL sz m j).toArray⟩ : ByteArray) ++ t).size + 1 ≤ 9223372036854775807 then (q12_Of.l0 k m (((⟨(headL sz m j).toArray⟩ : ByteArray) ++ t) ++ (⟨#[32]⟩ : ByteArray)) ((j + 1 : Nat) : Int) sz n d2 d3 cs d5 d6 b7 d8 d9 b10) else (none)) else (none))) (fun k => ?_) ?_
      · rw [q12_Of.l0, if_pos (by omega), if_pos (by omega), if_pos ((bitB_iff m j (by omega)).2 hb), if_pos (by omega), hw]
      · refine Ev.bind (digits_ev (rd sz j) r1 r2) ?_
        simp only [if_pos (show (⟨(headL sz m j).toArray⟩ : ByteArray).size + (⟨(Lib.itoa (rd sz j)).toArray⟩ : ByteArray).size ≤ 9223372036854775807 by omega), if_pos (show ((⟨(headL sz m j).toArray⟩ : ByteArray) ++ ⟨(Lib.itoa (rd sz j)).toArray⟩).size + 1 ≤ 9223372036854775807 by rw [ByteArray.size_append]; omega), he]
        exact ih
    · rw [if_neg hb, List.append_nil] at ih
      refine Ev.steps 1 (fun k => ?_) ih
      rw [q12_Of.l0, if_pos (by omega), if_pos (by omega), if_neg (fun h => hb ((bitB_iff m j (by omega)).1 h)), hw]
def refO (sz : List Int) (n m : Int) (cs : List Ex) : ByteArray × Bool := if offP n sz.length m ∨ cs.all rightB = false then (⟨#[]⟩, false) else (⟨(ofT sz m n.toNat cs).toArray⟩, true)
theorem of_tail (sz : List Int) (m : Int) (hm : m < 2 ^ 63) (h0 : 0 ≤ m) (K : Nat) (hK : K ≤ 4) (hd : m / 2 ^ K = 0) (n : Int) (d2 : List Int) (d3 cs d5 d6 d8 : List Ex) (d9 : List S144) (b7 b10 : Bool) (hcs : cs.length ≤ 1048576) (hr : cs.all rightB = true) (hg : ∀ x ∈ cs, rngF x = true) (hKs : K ≤ sz.length) (hsz : ∀ i : Nat, i < sz.length → -9223372036854775808 ≤ rd sz i ∧ rd sz i ≤ 9223372036854775807) :
    Ev (fun k => (q12_Within.f k cs m).bind fun t => q12_Of.l1 k m ⟨(headL sz m K).toArray⟩ [] t 0 sz n d2 d3 cs d5 d6 b7 d8 d9 b10) (⟨(ofT sz m K cs).toArray⟩, true) := by
  have hra := List.all_eq_true.1 hr
  refine Ev.bind (refWithin_ev m hm cs (by omega)) ?_
  have hwl := withI_len m cs 0
  have hmap : (withI m cs 0).map (fun i => rankF (rsF m K K) (rd_T26 cs i)) = (sel m cs).map (rankF (rsF m K K)) := by
    have h := withI_map m cs (rd_T26 [] 0) (rankF (rsF m K K)) cs 0 rfl
    rw [← h]
    apply List.map_congr_left
    intro i _
    rfl
  refine of_l1 m K (by omega) _ (withI m cs 0) sz n d2 d3 cs d5 d6 d8 d9 b7 b10 (by omega) hcs (fun i hi => ?_) _ ?_ (withI m cs 0) 0 [] rfl rfl
  · obtain ⟨q, hq, hl, hs⟩ := withI_mem m cs 0 i hi
    have hrq := hra _ (List.getElem_mem hl)
    exact ⟨q, by rw [hq]; omega, hl, Rt.of hrq, inR_of hrq h0 hm hd hs _ (by rw [rsF_len]; exact Nat.le_refl _)⟩
  · rw [hmap]
    have hsl := sel_len m cs
    have hlm : ((sel m cs).map (rankF (rsF m K K))).length = (sel m cs).length := List.length_map _
    have hgg := ranked_rng (m := m) (K := K) hK hg
    have hrr := ranked_right (m := m) (K := K) hK h0 hm hd hra
    refine Ev.bind (refConds_ev _ (by omega) hgg) ?_
    have hc : refC ((sel m cs).map (rankF (rsF m K K))) [] = (condsF ((sel m cs).map (rankF (rsF m K K))), true) := by
      unfold refC
      rw [if_pos (List.all_eq_true.2 hrr)]; rfl
    rw [hc]
    have hcl := conds_len ((sel m cs).map (rankF (rsF m K K)))
    have hh := headL_le sz m hsz K hKs
    exact of_l2 _ (by omega) (fun x hx => ⟨conds_right hrr x hx, conds_rng hrr hgg x hx⟩) _ 0 (headL sz m K) rfl (by omega)
theorem off_big {m : Int} {K : Nat} (h1 : 1 ≤ m) : m / 2 ^ K ≠ 0 ↔ m ≥ ((2 ^ K : Nat) : Int) := by
  obtain ⟨M, rfl⟩ := Int.eq_ofNat_of_zero_le (show 0 ≤ m by omega)
  have h2 : ((M : Int) / 2 ^ K) = ((M / 2 ^ K : Nat) : Int) := by simp
  have h3 := Nat.two_pow_pos K
  rw [h2]
  constructor
  · intro h
    have h4 : M / 2 ^ K ≠ 0 := by omega
    rw [Ne, Nat.div_eq_zero_iff] at h4
    omega
  · intro h h5
    have h6 : M / 2 ^ K = 0 := by omega
    rw [Nat.div_eq_zero_iff] at h6
    omega
theorem refOf_ev (sz : List Int) (n m : Int) (hm : m < 2 ^ 63) (d2 : List Int) (d3 cs d5 d6 d8 : List Ex) (d9 : List S144) (b7 b10 : Bool) (hcs : cs.length ≤ 1048576) (hg : ∀ x ∈ cs, rngF x = true) (hsz : ∀ i : Nat, i < sz.length → -9223372036854775808 ≤ rd sz i ∧ rd sz i ≤ 9223372036854775807) :
    Ev (fun k => q12_Of.f k sz n d2 d3 cs d5 d6 b7 d8 d9 b10 m) (refO sz n m cs) := by
  have hoff : offP n sz.length m → Ev (fun k => q12_Of.j0 k m true sz n d2 d3 cs d5 d6 b7 d8 d9 b10) (refO sz n m cs) := fun h => by
    unfold refO
    rw [if_pos (.inl h)]
    refine Ev.const 1 (fun k => ?_)
    rw [q12_Of.j0, if_pos rfl]
  unfold q12_Of.f
  by_cases c1 : n < 1
  · simp only [if_pos c1]; exact hoff (.inl c1)
  by_cases c2 : n > 4
  · simp only [if_neg c1, if_pos c2]; exact hoff (.inr (.inl c2))
  by_cases c3 : (sz.length : Int) < n
  · simp only [if_neg c1, if_neg c2, if_pos c3]; exact hoff (.inr (.inr (.inl c3)))
  by_cases c4 : m < 1
  · simp only [if_neg c1, if_neg c2, if_neg c3, if_pos c4]; exact hoff (.inr (.inr (.inr (.inl c4))))
  simp only [if_neg c1, if_neg c2, if_neg c3, if_neg c4, if_pos (show 0 ≤ n by omega)]
  obtain ⟨K, rfl⟩ := Int.eq_ofNat_of_zero_le (show 0 ≤ n by omega)
  have hs : shl .i64 1 (K : Int) = ((2 ^ K : Nat) : Int) := by rw [shl_two (by omega) (by omega), Int.toNat_natCast]
  rw [hs]
  have hb := off_big (m := m) (K := K) (by omega)
  by_cases c5 : m ≥ ((2 ^ K : Nat) : Int)
  · rw [decide_eq_true c5]
    exact hoff (.inr (.inr (.inr (.inr (by rw [Int.toNat_natCast]; exact hb.2 c5)))))
  · rw [decide_eq_false c5]
    have hd : m / 2 ^ K = 0 := Classical.byContradiction fun h => c5 (hb.1 h)
    refine Ev.steps 1 (f := fun k => (q12_Conds.f k cs).bind fun bt => (if bt.2 = true then (q12_Of.l0 k m (⟨#[83]⟩ : ByteArray) 0 sz K d2 d3 cs d5 d6 b7 d8 d9 b10) else (some ((⟨#[]⟩ : ByteArray), false)))) (fun k => by rw [q12_Of.j0, if_neg (by decide)]) ?_
    refine Ev.bind (refConds_ev cs (by omega) hg) ?_
    unfold refO
    cases hr : cs.all rightB with
    | false =>
      rw [if_pos (.inr rfl)]
      have hc : (refC cs []).2 = false := by unfold refC; rw [hr]; rfl
      simp only [hc, Bool.false_eq_true, if_false]
      exact Ev.now _
    | true =>
      have hno : ¬ (offP (K : Int) sz.length m ∨ (true : Bool) = false) := by
        rintro (h | h)
        · unfold offP at h
          rw [Int.toNat_natCast] at h
          rcases h with h | h | h | h | h
          · omega
          · omega
          · omega
          · omega
          · exact h hd
        · cases h
      rw [if_neg hno, Int.toNat_natCast]
      have hc : (refC cs []).2 = true := by unfold refC; rw [if_pos hr]
      simp only [hc, if_true]
      exact of_l0 m K (by omega) sz d2 d3 cs d5 d6 d8 d9 b7 b10 (by omega) hsz _ rfl _ (of_tail sz m hm (by omega) K (by omega) hd _ d2 d3 cs d5 d6 d8 d9 b7 b10 hcs hr hg (by omega) hsz) K 0 (by omega)
end Go.Proofs.YtpdhoghkoakojaaDoor.E
