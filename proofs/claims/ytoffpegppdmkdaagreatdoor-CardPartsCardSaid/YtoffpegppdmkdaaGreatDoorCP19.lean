/- Contracts and plain lemmas of the functions that the law reaches, part 19. -/
import Derived.Calls
import Derived.Lib.QuietBelow
namespace Go.Proofs.YtoffpegppdmkdaaGreatDoor.E
open Go
set_option linter.unusedVariables false
set_option linter.unusedSimpArgs false
theorem ask_drawn {α : Type} : ∀ (a : Ask α) (w : World), w.drawn ≤ (w.ask a).2.drawn
  | .done a, w => Nat.le_refl _
  | .ask what range k, w => by
    unfold World.ask
    simp only
    split
    · exact ask_drawn _ _
    · exact Nat.le_trans (Nat.le_succ _) (ask_drawn (k _) { w with drawn := w.drawn + 1 })
theorem sys_drawn (w : World) (c : Sys) : w.drawn ≤ (w.sys c).2.drawn := by
  unfold World.sys
  have h := ask_drawn (Kernel.perform c w.os) w
  split
  · exact Nat.le_refl _
  · rename_i h2
    rw [h2] at h
    exact h
theorem farStore_drawn {p : Program} {w w' : World} {a : Addr} {v : Value} {b : Bool} {l : List Addr} (h : w.farStore p a v b = .ok (w', l)) : w'.drawn = w.drawn := by
  unfold World.farStore at h
  split at h
  · split at h
    · rename_i r hr
      injection h with h
      subst h
      unfold World.viewStore at hr
      simp only [bind, Except.bind, pure, Except.pure] at hr
      repeat' (split at hr)
      all_goals first | (cases hr; done) | (injection hr with hr; injection hr with h1 h2; rw [← h1])
    · cases h
  · cases h
def Result.wd {α : Type} : Result α → World
  | .ok _ w => w
  | .halt _ w => w
theorem freeze_drawn (w : World) (a : Addr) (n : Nat) : (w.freeze a n).drawn = w.drawn := by unfold World.freeze; split <;> rfl
theorem run_drawn {α : Type} (p : Program) (e : Sem α) : ∀ w : World, w.drawn ≤ (Result.wd (e.run p w)).drawn := by
  induction e with
  | pure a => intro w; exact Nat.le_refl _
  | load m a k ih =>
    intro w; unfold Sem.run
    split
    · exact ih _ w
    · split
      · exact ih _ w
      · exact Nat.le_refl _
  | store m a v k ih =>
    intro w
    have hst : ∀ v : Value, w.drawn ≤ (Result.wd (match w.cell? a with
      | some _ => if w.frozen? a then .halt (.unsupported (.unsafePointer "a write to bytes that a string shares")) w else k.run p (w.setCell a v)
      | none => match w.farStore p a v (m == .atomic) with
        | .ok (w, _) => k.run p w
        | .error h => .halt h w)).drawn := fun v => by
      split
      · split
        · exact Nat.le_refl _
        · exact ih (w.setCell a v)
      · split
        · rename_i h; exact Nat.le_trans (Nat.le_of_eq (farStore_drawn h).symm) (ih _)
        · exact Nat.le_refl _
    cases v <;> first | exact Nat.le_refl _ | exact hst _
  | new o k ih => intro w; exact ih _ { w with heap := w.heap.push o }
  | shape r k ih => intro w; exact ih _ w
  | freeze a n k ih => intro w; exact Nat.le_trans (Nat.le_of_eq (freeze_drawn w a n).symm) (ih _)
  | frozen a k ih => intro w; exact ih _ w
  | getObj r k ih =>
    intro w; unfold Sem.run
    split
    · exact Nat.le_refl _
    · exact ih _ w
    · exact Nat.le_refl _
  | setObj r o k ih =>
    intro w; unfold Sem.run
    split
    · exact Nat.le_refl _
    · exact ih { w with heap := w.heap.setIfInBounds r o }
    · exact Nat.le_refl _
  | choose q k ih =>
    intro w; unfold Sem.run
    split
    · exact ih _ w
    · exact Nat.le_trans (Nat.le_succ _) (ih _ { w with drawn := w.drawn + 1 })
  | sys c k ih => intro w; exact Nat.le_trans (sys_drawn w c) (ih _ _)
  | program k ih => intro w; exact ih _ w
  | mark m k ih => intro w; exact ih w
  | halt h => intro w; exact Nat.le_refl _
theorem runT_run {α : Type} (p : Program) (e : Sem α) : ∀ (w : World) (es : Array Event), (e.runT p w es).1 = e.run p w := by
  induction e with
  | pure a => intro w es; rfl
  | load m a k ih =>
    intro w es; unfold Sem.runT Sem.run
    split
    · exact ih _ _ _
    · split
      · exact ih _ _ _
      · rfl
  | store m a v k ih =>
    intro w es
    cases v <;> first | rfl | (
      unfold Sem.runT Sem.run
      split
      · split
        · rfl
        · exact ih _ _
      · split
        · exact ih _ _
        · rfl)
  | new o k ih => intro w es; exact ih _ _ _
  | shape r k ih => intro w es; exact ih _ _ _
  | freeze a n k ih => intro w es; exact ih _ _
  | frozen a k ih => intro w es; exact ih _ _ _
  | getObj r k ih =>
    intro w es; unfold Sem.runT Sem.run
    split
    · rfl
    · exact ih _ _ _
    · rfl
  | setObj r o k ih =>
    intro w es; unfold Sem.runT Sem.run
    split
    · rfl
    · exact ih _ _
    · rfl
  | choose q k ih =>
    intro w es; unfold Sem.runT Sem.run
    split
    · exact ih _ _ _
    · exact ih _ _ _
  | sys c k ih => intro w es; exact ih _ _ _
  | program k ih => intro w es; exact ih _ _ _
  | mark m k ih => intro w es; exact ih _ _
  | halt h => intro w es; rfl
def GS (d : Nat) : GStep → Prop
  | .go _ w _ => d ≤ w.drawn
  | .comm _ _ _ _ w _ => d ≤ w.drawn
  | .spawn _ _ w _ => d ≤ w.drawn
  | .count _ w _ => d ≤ w.drawn
  | .timer _ _ w _ => d ≤ w.drawn
  | .alone _ _ w _ => d ≤ w.drawn
  | .newcoro _ _ _ w _ => d ≤ w.drawn
  | .coroswitch _ _ _ w _ => d ≤ w.drawn
  | .collect _ w _ => d ≤ w.drawn
  | .watch _ w _ => d ≤ w.drawn
  | .ended _ _ _ => True
theorem GS.after {d : Nat} {s : GStep} (es : Array Event) (h : GS d s) : GS d (GStep.after es s) := by cases s <;> exact h
theorem GS.ended (d : Nat) (o : Outcome) (w : World) (es : Array Event) : GS d (.ended o w es) := trivial
theorem GS.endWith (d : Nat) (w : World) (fd : Nat) (text : ByteArray) (o : Outcome) : GS d (endWith w fd text o) := by
  unfold Go.endWith
  simp only
  repeat' split
  all_goals trivial
theorem GS.endThrow {d : Nat} {w : World} (h : d ≤ w.drawn) (fr : Frame) (m : String) : GS d (endThrow fr m w) := h
theorem GS.endPrinting {d : Nat} {w : World} (h : d ≤ w.drawn) (p : Program) (fr : Frame) (v : Value) : GS d (endPrinting p fr v w) := by
  unfold Go.endPrinting
  simp only
  split
  · exact h
  · trivial
theorem run_ok {α : Type} {d : Nat} {p : Program} {e : Sem α} {w w' : World} {a : α} (hd : d ≤ w.drawn) (h : e.run p w = .ok a w') : d ≤ w'.drawn := by
  have := run_drawn p e w
  rw [h] at this
  exact Nat.le_trans hd this
theorem run_halt {α : Type} {d : Nat} {p : Program} {e : Sem α} {w w' : World} {a : Halt} (hd : d ≤ w.drawn) (h : e.run p w = .halt a w') : d ≤ w'.drawn := by
  have := run_drawn p e w
  rw [h] at this
  exact Nat.le_trans hd this
theorem runT_ok {α : Type} {d : Nat} {p : Program} {e : Sem α} {w w' : World} {a : α} {es : Array Event} (hd : d ≤ w.drawn) (h : (e.runT p w es).1 = .ok a w') : d ≤ w'.drawn := run_ok hd ((runT_run p e w es).symm.trans h)
theorem runT_halt {α : Type} {d : Nat} {p : Program} {e : Sem α} {w w' : World} {a : Halt} {es : Array Event} (hd : d ≤ w.drawn) (h : (e.runT p w es).1 = .halt a w') : d ≤ w'.drawn := run_halt hd ((runT_run p e w es).symm.trans h)
theorem GS.endFatal {d : Nat} {w : World} (h : d ≤ w.drawn) (p : Program) (fr : Frame) (callers : List Frame) (dying : Option Dying) (m : String) : GS d (endFatal p fr callers dying m w) := by
  unfold Go.endFatal
  simp only
  split
  · rename_i hr; exact run_ok h hr
  · trivial
  · trivial
theorem runT_okP {α : Type} {d : Nat} {p : Program} {e : Sem α} {w w' : World} {a : α} {es es' : Array Event} (hd : d ≤ w.drawn) (h : e.runT p w es = (.ok a w', es')) : d ≤ w'.drawn := runT_ok (es := es) hd (by rw [h])
theorem runT_haltP {α : Type} {d : Nat} {p : Program} {e : Sem α} {w w' : World} {a : Halt} {es es' : Array Event} (hd : d ≤ w.drawn) (h : e.runT p w es = (.halt a w', es')) : d ≤ w'.drawn := runT_halt (es := es) hd (by rw [h])
theorem GS.ite {d : Nat} {c : Prop} [Decidable c] {a b : GStep} (h1 : GS d a) (h2 : GS d b) : GS d (if c then a else b) := by split <;> assumption
theorem GS.writeOn {d : Nat} {w : World} (h : d ≤ w.drawn) (p : Program) (fr : Frame) (dy : Dying) (f : Fatal) : GS d (writeOn p fr dy f w) := by
  unfold Go.writeOn
  simp only
  split
  · trivial
  · split
    · rename_i hr; exact runT_okP h hr
    · rename_i hr; exact runT_haltP h hr
    · trivial
    · trivial
theorem GS.die {d : Nat} {w : World} (h : d ≤ w.drawn) (p : Program) (fr : Frame) (dy : Dying) : GS d (die p fr dy w) := by
  unfold Go.die
  simp only
  split
  · exact GS.writeOn h p fr dy _
  · split
    · split
      · exact h
      · exact GS.endWith _ _ _ _ _
    · split
      · exact h
      · split
        · rename_i hr; exact run_ok h hr
        · trivial
      · refine GS.after _ ?_
        split
        · rename_i hr; exact runT_ok h hr
        · rename_i hr; exact runT_ok h hr
        · trivial
        · rename_i hr; exact GS.endPrinting (runT_halt h hr) _ _ _
        · trivial
      · trivial
theorem GS.doReturn {d : Nat} {w : World} (h : d ≤ w.drawn) (p : Program) (main : Bool) (fr : Frame) (callers : List Frame) (dying : Option Dying) (v : Value) : GS d (doReturn p main fr callers dying v w) := by
  unfold Go.doReturn
  repeat' split
  all_goals first | exact h | trivial
theorem GS.callDeferred {d : Nat} {w : World} (h : d ≤ w.drawn) (p : Program) (fr : Frame) (callers : List Frame) (dying : Option Dying) (de : Deferred) : GS d (callDeferred p fr callers dying de w) := by
  unfold Go.callDeferred
  refine GS.ite trivial (GS.after _ ?_)
  split
  all_goals (try trivial)
  all_goals (rename_i hr)
  all_goals first | exact runT_ok h hr | exact runT_halt h hr | exact GS.endFatal (runT_halt h hr) _ _ _ _ _ | exact GS.endThrow (runT_halt h hr) _ _ | (split <;> exact runT_ok h hr)
theorem GS.unwind {d : Nat} {w : World} (h : d ≤ w.drawn) (p : Program) (main : Bool) (fr : Frame) (callers : List Frame) (dying : Option Dying) : GS d (unwind p main fr callers dying w) := by
  unfold Go.unwind
  split
  · refine GS.after _ ?_
    split
    · rename_i hr; exact runT_ok h hr
    · trivial
  · exact GS.callDeferred h _ _ _ _ _
  · split
    · trivial
    · refine GS.ite trivial ?_
      split
      · exact h
      · split
        · refine GS.ite h ?_
          split
          · rename_i hr; exact run_ok h hr
          · trivial
          · trivial
        · split
          · exact GS.endPrinting h _ _ _
          · trivial
    · split
      · exact GS.doReturn h _ _ _ _ _ _
      · refine GS.after _ ?_
        split
        · rename_i hr; exact GS.doReturn (runT_ok h hr) _ _ _ _ _ _
        · trivial
        · trivial
theorem GS.early {d : Nat} {w : World} (h : d ≤ w.drawn) (p : Program) (fr : Frame) (callers : List Frame) (dying : Option Dying) (g : Nat) : GS d (early p fr callers dying g w) := by
  have hn : ∀ w : World, d ≤ w.drawn → GS d (match w.heap[g]? with
    | some (.pending c elem) => .go { frame := fr, callers, status := .running, dying } { w with heap := w.heap.setIfInBounds g (.cells c elem) }
    | _ => .ended (.stuck "early: the variable does not wait" (fr.pos p)) w) := fun w h => by
    split
    · exact h
    · trivial
  unfold Go.early
  simp only
  refine GS.ite (hn w h) ?_
  split
  · trivial
  · refine GS.ite (hn w h) (GS.ite (hn w h) ?_)
    split
    · trivial
    · exact h
    · trivial
    · exact hn w h
    · refine GS.ite h (GS.ite (hn w h) ?_)
      split
      · rename_i hr; exact hn _ (run_ok h hr)
      · rename_i hr; exact run_ok h hr
      · trivial
theorem GS.apply {d : Nat} {w : World} (h : d ≤ w.drawn) (p : Program) (fr : Frame) (callers : List Frame) (dying : Option Dying) (s : Sem Next) (listen : Bool) : GS d (stepG.apply p listen fr callers dying s w) := by
  unfold stepG.apply
  simp only
  refine GS.after _ ?_
  have hok : ∀ {a : Next} {w' : World}, (if listen = true then s.runT p w #[] else (s.run p w, #[])).1 = .ok a w' → d ≤ w'.drawn := fun hr => by
    split at hr
    · exact runT_ok h hr
    · exact run_ok h hr
  have hha : ∀ {a : Halt} {w' : World}, (if listen = true then s.runT p w #[] else (s.run p w, #[])).1 = .halt a w' → d ≤ w'.drawn := fun hr => by
    split at hr
    · exact runT_halt h hr
    · exact run_halt h hr
  split
  all_goals (try trivial)
  all_goals (rename_i hr)
  all_goals first
    | exact hok hr
    | exact hha hr
    | exact GS.endFatal (hha hr) _ _ _ _ _
    | exact GS.endThrow (hha hr) _ _
    | exact GS.early (hha hr) _ _ _ _ _
    | (split <;> exact hok hr)
    | (refine GS.ite (GS.endThrow (hok hr) _ _) ?_; exact hok hr)
    | skip
theorem GS.oper {d : Nat} {w : World} (h : d ≤ w.drawn) (p : Program) (fr : Frame) (callers : List Frame) (dying : Option Dying) (listen : Bool) : GS d (stepG.oper p listen fr callers dying w) := by
  unfold stepG.oper
  split
  · trivial
  · split <;> exact GS.apply h _ _ _ _ _ _
theorem GS.elim {d : Nat} {α : Type} {o : Option α} {a : GStep} {f : α → GStep} (h1 : GS d a) (h2 : ∀ k, GS d (f k)) : GS d (o.elim a f) := by cases o <;> first | exact h1 | exact h2 _
theorem GS.exec {d : Nat} {w : World} (h : d ≤ w.drawn) (p : Program) (main : Bool) (fr : Frame) (callers : List Frame) (dying : Option Dying) (listen : Bool) : GS d (stepG.exec p main listen fr callers dying w) := by
  unfold stepG.exec
  simp only
  split
  all_goals first
    | exact h
    | trivial
    | exact GS.apply h _ _ _ _ _ _
    | exact GS.oper h _ _ _ _ _
    | (split; (· refine GS.ite ?_ ?_ <;> first | exact h | trivial); (· refine GS.after _ ?_; split; (· rename_i hr; exact GS.doReturn (runT_ok h hr) _ _ _ _ _ _); (· trivial)))
    | skip
  all_goals first
    | (split <;> first | exact h | trivial)
    | (refine GS.elim ?_ (fun _ => h); (split; (· refine GS.ite ?_ ?_ <;> first | exact h | trivial); (· refine GS.after _ ?_; split; (· rename_i hr; exact GS.doReturn (runT_ok h hr) _ _ _ _ _ _); (· trivial))))
    | (refine GS.after _ ?_; split; (· rename_i hr; exact GS.apply (runT_ok h hr) _ _ _ _ _ _); (· trivial))
    | (refine GS.after _ ?_; split; (· rename_i hr; exact runT_ok h hr); (· rename_i hr; exact runT_halt h hr); (· trivial))
    | (refine GS.ite h ?_; split; (· rename_i hr; exact run_ok h hr); (· trivial))
    | (refine GS.elim trivial (fun _ => GS.apply h _ _ _ _ _ _))
    | (split; (· exact GS.oper h _ _ _ _ _); (· exact h))
    | skip
theorem GS.stepG {d : Nat} {w : World} (h : d ≤ w.drawn) (p : Program) (main : Bool) (g : Goroutine) (listen : Bool) : GS d (stepG p main g w listen) := by
  unfold Go.stepG
  simp only
  split
  · exact GS.die h _ _ _
  · exact GS.exec h _ _ _ _ _ _
  · exact GS.unwind h _ _ _ _ _
def SD (d : Nat) : Stepped → Prop
  | .next m => d ≤ m.world.drawn
  | .ended _ _ => True
theorem SD.look {d : Nat} {w : World} (h : d ≤ w.drawn) (p : Program) (gs : Array Goroutine) (rest : Rest) : SD d (look p gs rest w) := by
  unfold Go.look
  split
  · simp only
    split
    · trivial
    · split
      · trivial
      · split
        · rename_i hr; have h2 := run_ok (d := d) h hr; exact h2
        · trivial
        · trivial
  · trivial
theorem SD.communicate {d : Nat} {w : World} (h : d ≤ w.drawn) (p : Program) (rest : Rest) (gs : Array Goroutine) (i : Nat) (g : Goroutine) (cases_ : Array CommCase) (blocking : Bool) (shape : CommShape) : SD d (communicate p rest gs i g cases_ blocking shape w).1 := by
  unfold Go.communicate
  simp only
  split
  · trivial
  · split
    · split
      · split
        · rename_i hr
          unfold waitingAt at hr
          split at hr
          · split at hr
            · injection hr with hr; subst hr; exact h
            · cases hr
          · injection hr with hr; subst hr; exact h
        · trivial
      · exact h
    · split
      · trivial
      · rename_i hr
        have h1 := run_ok (d := d) h hr
        split
        · split
          · rename_i hr2; have h2 := run_halt (d := d) h1 hr2; exact h2
          · trivial
        · exact h1
        · exact h1
        · split
          · exact h1
          · split
            · rename_i hr2; have h2 := run_ok (d := d) h1 hr2; exact h2
            · trivial
        · exact h1
        · exact h1
        · trivial
theorem drain_drawn (w : World) (c : Nat) : (drain w c).2.drawn = w.drawn := by unfold drain; split <;> rfl
theorem retime_drawn (m : Machine) (k : Nat) (t : Timer) (a b : Nat) : (retime m k t a b).2.world.drawn = m.world.drawn := by
  unfold retime
  simp only
  split
  · exact drain_drawn _ _
  · rfl
theorem timerOp_drawn {d : Nat} {m m' : Machine} {op : TimerOp} {v : Value} (h : d ≤ m.world.drawn) (hr : timerOp m op = .ok (v, m')) : d ≤ m'.world.drawn := by
  have hnm : ∀ (m : Machine) (var : Addr) (f : Nat → Timer → Value × Machine), (∀ k t, d ≤ (f k t).2.world.drawn) → timerOp.named m var f = .ok (v, m') → d ≤ m'.world.drawn := fun m var f hf hr => by
    unfold timerOp.named at hr
    split at hr
    · injection hr with hr
      rename_i k _
      have := hf k (m.rest.timers.getD k default)
      rw [hr] at this
      exact this
    · cases hr
  unfold timerOp at hr
  split at hr
  · split at hr
    · injection hr with hr; injection hr with _ hr; subst hr; exact h
    · split at hr
      · split at hr
        · cases hr
        · injection hr with hr; injection hr with _ hr; subst hr; exact h
      · cases hr
  · exact hnm m _ (fun k t => retime m k t _ _) (fun k t => Nat.le_trans h (Nat.le_of_eq (retime_drawn m k t _ _).symm)) hr
  · split at hr
    · rename_i m2 ho
      have h2 : d ≤ m2.world.drawn := by
        unfold timerOp.opened at ho
        split at ho
        · split at ho
          · injection ho with ho; subst ho; exact h
          · cases ho
        · injection ho with ho; subst ho; exact h
      exact hnm m _ (fun k t => retime m2 k t _ _) (fun k t => Nat.le_trans h2 (Nat.le_of_eq (retime_drawn m2 k t _ _).symm)) hr
    · cases hr
  · injection hr with hr; injection hr with _ hr; subst hr; exact h
theorem SD.serve {d : Nat} {m : Machine} (h : d ≤ m.world.drawn) (p : Program) (k : Nat) : SD d (serve p m k) := by
  unfold Go.serve
  split
  · trivial
  · exact h
  · simp only
    split
    · trivial
    · exact h
theorem SD.runT {d : Nat} {m : Machine} (h : d ≤ m.world.drawn) (p : Program) (i : Nat) (listen : Bool) : SD d (runT p m i listen).1 := by
  unfold Go.runT
  simp only
  have hs := GS.stepG h p (i == 0) (m.gs.swapAt! i { (default : Goroutine) with status := .finished }).1 listen
  split <;> rename_i he <;> rw [he] at hs
  · trivial
  · exact SD.communicate hs _ _ _ _ _ _ _ _
  · exact hs
  · exact hs
  · split
    · trivial
    · exact hs
  · exact hs
  · exact SD.look hs _ _ _
  · exact hs
  · exact hs
  · split
    · exact hs
    · split
      · rename_i he2; exact (show d ≤ _ from by injection he2 with _ h2 _; rw [← h2]; exact hs)
      · trivial
    · trivial
  · split
    · rename_i hr
      have h2 := timerOp_drawn (d := d) (m := { world := _, gs := _, rest := _ }) hs hr
      exact h2
    · split
      · rename_i he2; exact (show d ≤ _ from by injection he2 with _ h2 _; rw [← h2]; exact hs)
      · trivial
    · trivial
    · trivial
def MD (d : Nat) : Move → Prop
  | .goroutine m _ => d ≤ m.world.drawn
  | .machine s _ => SD d s
theorem MD.pick {d : Nat} {m : Machine} (h : d ≤ m.world.drawn) (p : Program) (rs : List Nat) : MD d (match (choose (.sched rs.length)).run p m.world with
      | .halt _ w => .machine (.ended (.stuck "sched" "") w)
      | .ok k world =>
        if rs.length ≤ 1 then .goroutine { m with world } (rs.getD k 0) else
        match (choose (.extern "sched.slice" 65536)).run p world with
        | .halt _ w => .machine (.ended (.stuck "sched.slice" "") w)
        | .ok n world => .goroutine { m with world, rest := { m.rest with slice := if n = 0 then none else some (rs.getD k 0, n) } } (rs.getD k 0)) := by
  split
  · trivial
  · rename_i hr
    have h2 := run_ok (d := d) h hr
    split
    · exact h2
    · split
      · trivial
      · rename_i hr3; have h3 := run_ok (d := d) h2 hr3; exact h3
theorem MD.askOn {d : Nat} {m : Machine} (h : d ≤ m.world.drawn) (p : Program) : MD d (askOn p m) := by
  unfold Go.askOn
  simp only
  split
  · trivial
  · rename_i hr
    have h2 := run_ok (d := d) h hr
    split
    · exact SD.serve (m := { m with world := _ }) h2 _ _
    · split
      · split
        · exact h2
        · split
          · exact h2
          · split <;> trivial
      · split
        · exact MD.pick (m := { m with world := _ }) h2 p _
        · split
          · trivial
          · rename_i hr3; have h3 := run_ok (d := d) h2 hr3; exact MD.pick (m := { m with world := _ }) h3 p _
          · rename_i hr3; have h3 := run_ok (d := d) h2 hr3; exact h3
          · rename_i hr3; have h3 := run_ok (d := d) h2 hr3; exact MD.pick (m := Machine.advanceTo { m with world := _ } _) h3 p _
theorem MD.ask {d : Nat} {m : Machine} (h : d ≤ m.world.drawn) (p : Program) : MD d (ask p m) := by
  unfold Go.ask
  split
  · split
    · trivial
    · rename_i hr
      have h2 := run_ok (d := d) h hr
      have hl := SD.look h2 p m.gs m.rest
      split
      · rename_i he; rw [he] at hl; exact MD.askOn hl p
      · exact hl
    · rename_i hr
      have h2 := run_ok (d := d) h hr
      exact MD.askOn (m := { m with world := _ }) h2 p
  · exact MD.askOn h p
theorem MD.move {d : Nat} {m : Machine} (h : d ≤ m.world.drawn) (p : Program) : MD d (move p m) := by
  unfold Go.move
  split
  · split
    · exact h
    · trivial
  · split
    · split
      · exact h
      · exact MD.ask (m := { m with rest := { m.rest with slice := none } }) h p
    · exact MD.ask h p
theorem SD.step {d : Nat} {m : Machine} (h : d ≤ m.world.drawn) (p : Program) : SD d (step p m) := by
  unfold Go.step stepT
  have hm := MD.move h p
  split <;> rename_i he <;> rw [he] at hm
  · exact SD.runT hm p _ _
  · exact hm
theorem runN_drawn (p : Program) : ∀ (n : Nat) (m m' : Machine), runN p n m = .next m' → m.world.drawn ≤ m'.world.drawn
  | 0, m, m', h => by injection h with h; subst h; exact Nat.le_refl _
  | n + 1, m, m', h => by
    unfold runN at h
    have hs := SD.step (Nat.le_refl m.world.drawn) p
    split at h
    · rename_i he; rw [he] at hs; exact Nat.le_trans hs (runN_drawn p n _ _ h)
    · rename_i hne; cases hst : Go.step p m with
      | next m1 => exact absurd hst (hne m1)
      | ended o w => rw [hst] at h; cases h
theorem steps_drawn {p : Program} {m m' : Machine} (h : Steps p m m') : m.world.drawn ≤ m'.world.drawn := by
  obtain ⟨n, hn⟩ := h
  exact runN_drawn p n m m' hn
theorem calls_drawn {P : Program} {f : FuncId} {args : Array Value} {w : World} {R : Ending → World → Prop} (h : Calls P f args w R) (hR : ∀ w', ¬ R .outgrown w') : Calls P f args w fun e w' => R e w' ∧ w.drawn ≤ w'.drawn := by
  intro cs
  obtain ⟨e, w', fr, hr, hc, hf, hl⟩ := h cs
  refine ⟨e, w', fr, ⟨hr, ?_⟩, hc, hf, hl⟩
  cases e with
  | returned v => exact steps_drawn hc
  | panicked c => exact steps_drawn hc
  | outgrown => exact absurd hr (hR w')
theorem grow_of {w w' : World} (h : RowKit.Below w.heap.size w w') (hd : w.drawn ≤ w'.drawn) : ∃ q os, w' = Sort.grow (w.drewN q) os := by
  obtain ⟨p, hp⟩ := regrown_of_below h
  refine ⟨w'.drawn - w.drawn, p.os, ?_⟩
  have h2 : w'.drawn = p.d := by rw [hp]; rfl
  conv => lhs; rw [hp]
  congr 1
  unfold redrawn World.drewN
  rw [show w.drawn + (w'.drawn - w.drawn) = p.d by omega]
end Go.Proofs.YtoffpegppdmkdaaGreatDoor.E
