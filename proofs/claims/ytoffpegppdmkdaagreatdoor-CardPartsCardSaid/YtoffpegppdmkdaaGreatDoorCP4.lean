/- Contracts and plain lemmas of the functions that the law reaches, part 4. -/
import Derived.Test.YtoffpegppdmkdaaGreatDoorProg
import Derived.Deep.Slices
import Derived.ChangeArms
import Derived.DataReads
import Derived.JoinedCond
import Derived.Lib.LaidTab
import Derived.LaidSub
import Derived.MakeChecks
import Derived.Test.YtoffpegppdmkdaaGreatDoorCP2
namespace Go.Proofs.YtoffpegppdmkdaaGreatDoor.Op
open Go.RowKit Go.Proofs.YtoffpegppdmkdaaGreatDoorW.PrintWords Go.Proofs.YtoffpegppdmkdaaGreatDoorW.PrintLast Go.Proofs.YtoffpegppdmkdaaGreatDoorW.PrintMore
def OpnN (P : Program) (n : Nat) (t : TypeId) {α : Type} (d : Kd α) (wf : α → Prop) : Prop :=
  ∀ (m : Nat), m ≤ n → ∀ (H : Type) (enc : TypeId × Value → H) (W : World) (base : Nat) (sp : Nat → Bool) (held : Bool) (cs : List Value) (r : DataW H × List MemPlace),
    DataW.trod enc P W base sp held m t cs = some r → (∀ z ∈ r.1.weights P t, z ≤ reachBytes) → ∃ x, d.K W x cs ∧ wf x
section
variable {P : Program} {n : Nat} {t : TypeId}
theorem OpnN.imp {α : Type} {d : Kd α} {wf wf' : α → Prop} (h : OpnN P n t d wf) (hw : ∀ x, wf x → wf' x) : OpnN P n t d wf' := fun m hm H enc W base sp held cs r hr hz => by
  obtain ⟨x, h1, h2⟩ := h m hm H enc W base sp held cs r hr hz
  exact ⟨x, h1, hw x h2⟩
theorem OpnN.le {α : Type} {d : Kd α} {wf : α → Prop} (h : OpnN P (n + 1) t d wf) : OpnN P n t d wf := fun m hm => h m (by omega)
theorem opn_int {k : IntKind} (ht : P.underlying t = some (.int k)) : OpnN P n t (Kd.int k) (fun z => (Lit.int k z).wf = true) := fun m _ H enc W base sp held cs r hr _ => by
  obtain ⟨z, rfl, _, hw⟩ := DataW.trod_int ht hr
  exact ⟨z, rfl, hw⟩
theorem opn_bool (ht : P.underlying t = some .bool) : OpnN P n t Kd.bool (fun _ => True) := fun m _ H enc W base sp held cs r hr _ => by
  obtain ⟨b, rfl, _⟩ := DataW.trod_bool ht hr
  exact ⟨b, rfl, trivial⟩
theorem opn_string (ht : P.underlying t = some .string) : OpnN P n t Kd.string (fun s => s.size ≤ reachBytes) := fun m _ H enc W base sp held cs r hr hz => by
  obtain ⟨s, rfl, rfl, _⟩ := DataW.trod_string ht hr
  exact ⟨s, rfl, hz _ (by simp [DataW.weights])⟩
theorem weightsAll_mem {H : Type} {e : TypeId} : ∀ {l : List (DataW H)} {x : DataW H} {z : Nat}, x ∈ l → z ∈ x.weights P e → z ∈ DataW.weightsAll P e l
  | d :: l, x, z, hx, hz => by
    rw [DataW.weightsAll, List.mem_append]
    rcases List.mem_cons.1 hx with rfl | hx
    · exact .inl hz
    · exact .inr (weightsAll_mem hx hz)
theorem opn_slice {α : Type} {d : Kd α} {wf : α → Prop} {e : TypeId} (i0 : α) (ht : P.underlying t = some (.slice e)) (hc : P.cellsOf e = d.sz) (h : OpnN P n e d wf) :
    OpnN P n t (Kd.slice e d) (fun xs => xs.length * P.bytesOf e ≤ reachBytes ∧ ∀ x ∈ xs, wf x) := fun m hm H enc W base sp held cs r hr hz => by
  rcases DataW.trod_slice ht hr with ⟨rfl, rfl⟩ | ⟨a, len, cap, elems, rest, n', rfl, rfl, rfl, hb, hl, hmx, hlen, hel, _, _⟩
  · exact ⟨[], ⟨none, 0, rfl, Nat.le_refl _, rfl, by simp, fun hp => absurd hp (by simp)⟩, by simp, fun x hx => by simp at hx⟩
  · have hwe : ∀ z ∈ DataW.weights P t (.slice (elems.map (·.1)) (rest.map (·.1)) : DataW H), z ≤ reachBytes := hz
    rw [DataW.weights, ht] at hwe
    simp only [List.mem_cons, List.mem_append] at hwe
    haveI : Inhabited α := ⟨i0⟩
    obtain ⟨f, hf⟩ := Deep.choose_lt (α := α) (p := fun i x => (∃ c, W.cells? base (a.add (i * P.cellsOf e)) (P.cellsOf e) = some c ∧ d.K W x c) ∧ wf x) (n := len) (fun i hi => by
      have h1 := hel i hi
      rw [List.getElem?_eq_getElem (by omega)] at h1
      obtain ⟨c, hc1, hc2⟩ := Option.bind_eq_some_iff.1 h1
      obtain ⟨x, hx1, hx2⟩ := h n' (by omega) H enc W base sp held c _ hc2 (fun z hz => hwe z (.inr (.inl (weightsAll_mem (List.mem_map_of_mem (List.getElem_mem (by omega))) hz))))
      exact ⟨x, ⟨c, hc1, hx1⟩, hx2⟩)
    refine ⟨(List.range len).map f, ⟨some a, cap, by simp, by simpa using hl, by simp, ?_, fun _ => ⟨a, rfl, ?_⟩⟩, ?_, ?_⟩
    · unfold maxLen at hmx; simp; omega
    · intro j p hj
      rw [List.getElem?_map] at hj
      obtain ⟨j', hj', rfl⟩ := Option.map_eq_some_iff.1 hj
      have hjl : j < len := by have := (List.getElem?_eq_some_iff.1 hj').1; simpa using this
      obtain rfl : j = j' := by
        rw [List.getElem?_range hjl] at hj'
        exact Option.some.inj hj'
      obtain ⟨⟨c, hc1, hc2⟩, _⟩ := hf j hjl
      obtain ⟨_, hcl, hcc⟩ := World.cells?_some hc1
      refine ⟨c, by rw [hcl, hc], hc2, fun i u hu => ?_⟩
      have hil : i < P.cellsOf e := by have := (List.getElem?_eq_some_iff.1 hu).1; omega
      have := hcc i hil
      rw [hu, Deep.add_add, hc] at this
      exact this
    · have := hwe ((elems.map (·.1)).length + (rest.map (·.1)).length |> (· * P.bytesOf e)) (.inl rfl)
      simp only [List.length_map] at this
      simp only [List.length_map, List.length_range]
      refine Nat.le_trans (Nat.mul_le_mul_right _ ?_) this
      omega
    · intro x hx
      obtain ⟨j, hj, rfl⟩ := List.mem_map.1 hx
      exact (hf j (List.mem_range.1 hj)).2
def OpnF (P : Program) (n : Nat) (fs : List Field) (off : Nat) {α : Type} (d : Kd α) (wf : α → Prop) : Prop :=
  ∀ (m : Nat), m ≤ n → ∀ (H : Type) (enc : TypeId × Value → H) (W : World) (base : Nat) (sp : Nat → Bool) (held : Bool) (cs : List Value) (xs : List (DataW H × List MemPlace)),
    xs.length = fs.length → (∀ (i : Nat) (f : Field), fs[i]? = some f → DataW.trod enc P W base sp held m f.type ((cs.drop f.offset).take (P.cellsOf f.type)) = xs[i]?) →
    (∀ z ∈ DataW.weightsEach P (fs.map (·.type)) (xs.map (·.1)), z ≤ reachBytes) → cs.length = off + d.sz → ∃ x, d.K W x (cs.drop off) ∧ wf x
theorem opnF_last {α : Type} {d : Kd α} {wf : α → Prop} {f : Field} {off : Nat} (ho : f.offset = off) (hc : P.cellsOf f.type = d.sz) (h : OpnN P n f.type d wf) : OpnF P n [f] off d wf := fun m hm H enc W base sp held cs xs hl hx hz hcs => by
  match xs, hl with
  | [x], _ =>
    have h1 := hx 0 f rfl
    have h2 : (cs.drop f.offset).take (P.cellsOf f.type) = cs.drop off := by
      rw [ho, hc]; exact List.take_of_length_le (by simp; omega)
    rw [h2] at h1
    exact h m hm H enc W base sp held _ x h1 (fun z hzz => hz z (by simp [DataW.weightsEach, hzz]))
theorem opnF_cons {α β : Type} {a : Kd α} {b : Kd β} {wfa : α → Prop} {wfb : β → Prop} {f : Field} {fs : List Field} {off : Nat} (ho : f.offset = off) (hc : P.cellsOf f.type = a.sz) (h : OpnN P n f.type a wfa) (hr : OpnF P n fs (off + a.sz) b wfb) :
    OpnF P n (f :: fs) off (Kd.pair a b) (fun x => wfa x.1 ∧ wfb x.2) := fun m hm H enc W base sp held cs xs hl hx hz hcs => by
  match xs, hl with
  | x :: xs, hl =>
    have h1 := hx 0 f rfl
    rw [ho, hc] at h1
    obtain ⟨u, hu1, hu2⟩ := h m hm H enc W base sp held _ x h1 (fun z hzz => hz z (by simp [DataW.weightsEach, hzz]))
    have hsz : (Kd.pair a b).sz = a.sz + b.sz := rfl
    obtain ⟨v, hv1, hv2⟩ := hr m hm H enc W base sp held cs xs (by simpa using hl) (fun i g hg => hx (i + 1) g hg) (fun z hzz => hz z (by simp [DataW.weightsEach, hzz])) (by omega)
    refine ⟨(u, v), ⟨_, _, ?_, hu1, hv1⟩, hu2, hv2⟩
    rw [← List.drop_drop]
    exact (List.take_append_drop _ _).symm
theorem opn_struct {α : Type} {d : Kd α} {wf : α → Prop} {fs : Array Field} (ht : P.underlying t = some (.struct fs)) (hc : P.cellsOf t = d.sz) (h : OpnF P n fs.toList 0 d wf) : OpnN P (n + 1) t d wf := fun m hm H enc W base sp held cs r hr hz => by
  obtain ⟨xs, n', rfl, rfl, hcl, hxl, hx⟩ := DataW.trod_struct ht hr
  have hwe : ∀ z ∈ DataW.weights P t (.agg (xs.map (·.1)) : DataW H), z ≤ reachBytes := hz
  rw [DataW.weights, ht] at hwe
  have := h n' (by omega) H enc W base sp held cs xs (by simpa using hxl) (fun i f hf => hx i f (by simpa using hf)) hwe (by omega)
  simpa using this
theorem opn_iso {α β : Type} {d : Kd α} {wf : α → Prop} (f : β → α) (g : α → β) (hfg : ∀ y, f (g y) = y) (h : OpnN P n t d wf) : OpnN P n t (Kd.iso d f) (fun x => wf (f x)) := fun m hm H enc W base sp held cs r hr hz => by
  obtain ⟨x, h1, h2⟩ := h m hm H enc W base sp held cs r hr hz
  exact ⟨g x, by show d.K W (f (g x)) cs; rw [hfg]; exact h1, by show wf (f (g x)); rw [hfg]; exact h2⟩
theorem opn_fix {α : Type} {F : Kd α → Kd α} {sz : Nat} {E : List Nat} {hs : ∀ n, (Kd.upto F sz E n).sz = sz} {hE : ∀ n q, q ∈ (Kd.upto F sz E n).E → q ∈ E} {wf : α → Prop}
    (step : ∀ n (d : Kd α), d.sz = sz → OpnN P n t d wf → OpnN P (n + 1) t (F d) wf) (n : Nat) : OpnN P n t (Kd.fix F sz E hs hE) wf := by
  have all : ∀ n, OpnN P n t (Kd.upto F sz E n) wf := by
    intro n
    induction n with
    | zero =>
      intro m hm H enc W base sp held cs r hr hz
      obtain rfl : m = 0 := by omega
      simp [DataW.trod] at hr
    | succ n ih => exact step n _ (hs n) ih
  intro m hm H enc W base sp held cs r hr hz
  obtain ⟨x, h1, h2⟩ := all n m hm H enc W base sp held cs r hr hz
  exact ⟨x, ⟨n, h1⟩, h2⟩
theorem opn_arg {α : Type} {d : Kd α} {wf : α → Prop} (h : ∀ n, OpnN P n t d wf) {H : Type} {enc : TypeId × Value → H} {W : World} {v : Value} {x : DataW H} {ps : List MemPlace} (hr : DataW.Trod enc P W 0 (fun _ => true) true t v x ps)
    (hz : ∀ z ∈ x.weights P t, z ≤ reachBytes) : ∃ y, d.K W y v.cells.toList ∧ wf y := by
  obtain ⟨m, hm⟩ := hr
  exact h m m (Nat.le_refl _) H enc W 0 _ true _ _ hm hz
theorem weights_head {H : Type} {t : TypeId} {ts : List TypeId} {d : DataW H} {ds : List (DataW H)} (h : (DataW.weightsEach P (t :: ts) (d :: ds)).all (· ≤ reachBytes) = true) : (∀ z ∈ d.weights P t, z ≤ reachBytes) ∧ (DataW.weightsEach P ts ds).all (· ≤ reachBytes) = true := by
  rw [DataW.weightsEach, List.all_append, Bool.and_eq_true] at h
  exact ⟨fun z hz => by simpa using (List.all_eq_true.1 h.1) z hz, h.2⟩
theorem slice_of_K {α : Type} {d : Kd α} {e : Nat} {W : World} {xs : List α} {v : Value} (h : (Kd.slice e d).K W xs v.cells.toList) (hv : ∃ a l c, v = .slice a l c) : ∃ A c, v = .slice A xs.length c ∧ xs.length ≤ c ∧ d.C W A xs.length xs := by
  obtain ⟨a, l, c, rfl⟩ := hv
  obtain ⟨A, c', he, h1, h2⟩ := h
  simp [Value.cells] at he
  obtain ⟨rfl, rfl, rfl⟩ := he
  exact ⟨_, _, rfl, h1, h2⟩
theorem agg_of_K {α : Type} {d : Kd α} {W : World} {x : α} {v : Value} (h : d.K W x v.cells.toList) (hv : ∃ cs, v = .agg cs ∧ cs.size = P.cellsOf t) : ∃ l, v = .agg (List.toArray l) ∧ d.K W x l := by
  obtain ⟨cs, rfl, _⟩ := hv
  exact ⟨cs.toList, by simp, by simpa [Value.cells] using h⟩
theorem laid_tail {x : String × DataW Unit} {l : List (String × DataW Unit)} {W : World} (h : laidMet P (x :: l) W) : laidMet P l W := by
  obtain ⟨ps, h1, h2, h3⟩ := h
  obtain ⟨g, t, cs, fuel, p, q, hg, ht, hvar, hd, hq, rfl⟩ := h1
  refine ⟨q, hq, ?_, fun b off hb => h3 b off (List.mem_append_right _ hb)⟩
  exact (List.nodup_append.1 h2).2.1
end
end Go.Proofs.YtoffpegppdmkdaaGreatDoor.Op
