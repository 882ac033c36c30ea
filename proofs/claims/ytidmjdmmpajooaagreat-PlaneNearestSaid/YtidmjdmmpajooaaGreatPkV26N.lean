/-
  A call that comes back has drawn no less than at its start: no step of the machine takes a draw back. No function of the program is in sight here.
-/
import Derived.Test.YtidmjdmmpajooaaGreatSort
import Derived.Test.YtidmjdmmpajooaaGreatPkV14N
import Derived.Test.YtidmjdmmpajooaaGreatPkV12N
import Derived.Test.YtidmjdmmpajooaaGreatPkV2N
import Derived.Calls
import Derived.Laws.World
import Derived.Shelf.SlSortCmp.WholeK
import Derived.Shelf.SlicesE.Clone
set_option linter.unusedSimpArgs false
set_option linter.unusedVariables false
set_option maxHeartbeats 4000000
set_option maxRecDepth 100000
namespace Go.Proofs.YtidmjdmmpajooaaGreat
def rW {α : Type} : Result α → World
  | .ok _ w => w
  | .halt _ w => w
theorem zy {p : Program} {w : World} {at_ : Addr} {u : TypeId} {k : Addr} {v : Value} {atomic : Bool} {r : World × List Addr} (h : w.viewStore p at_ u k v atomic = .ok r) : r.1.drawn = w.drawn := by
  unfold World.viewStore at h
  simp only [bind, Except.bind, pure, Except.pure] at h
  repeat' (first | (cases h; done) | (cases h; rfl) | split at h)
theorem sr {p : Program} {w : World} {a : Addr} {v : Value} {atomic : Bool} {r : World × List Addr} (h : w.farStore p a v atomic = .ok r) : r.1.drawn = w.drawn := by
  unfold World.farStore at h
  split at h
  · split at h
    · rename_i h2
      cases h
      exact zy h2
    · cases h
  · cases h
theorem ask_drawn {α : Type} (a : Ask α) : ∀ w : World, w.drawn ≤ (w.ask a).2.drawn := by
  induction a with
  | done a => intro w; exact Nat.le_refl _
  | ask what range k ih =>
    intro w
    unfold World.ask
    simp only
    split
    · exact ih _ _
    · refine Nat.le_trans ?_ (ih _ _); exact Nat.le_succ _
theorem yt (w : World) (c : Sys) : w.drawn ≤ (w.sys c).2.drawn := by
  have h := ask_drawn (Kernel.perform c w.os) w
  unfold World.sys
  split
  · exact Nat.le_refl _
  · rename_i e; rw [e] at h; exact h
theorem vk (w : World) (a : Addr) (n : Nat) : (w.freeze a n).drawn = w.drawn := by
  unfold World.freeze; split <;> rfl
theorem lf {α : Type} (P : Program) (s : Sem α) : ∀ w, w.drawn ≤ (rW (s.run P w)).drawn := by
  induction s with
  | pure a => intro w; exact Nat.le_refl _
  | load m a k ih =>
    intro w; unfold Sem.run
    split
    · exact ih _ w
    · split
      · exact ih _ w
      · exact Nat.le_refl _
  | store m a v k ih =>
    intro w
    cases v <;> simp only [Sem.run] <;> first
      | exact Nat.le_refl _
      | (split
         · split
           · exact Nat.le_refl _
           · refine Nat.le_trans ?_ (ih _); exact Nat.le_refl _
         · split
           · rename_i h
             have := sr h
             refine Nat.le_trans ?_ (ih _); exact Nat.le_of_eq this.symm
           · exact Nat.le_refl _)
  | new o k ih => intro w; unfold Sem.run; refine Nat.le_trans ?_ (ih _ _); exact Nat.le_refl _
  | shape r k ih => intro w; unfold Sem.run; refine Nat.le_trans ?_ (ih _ _); exact Nat.le_refl _
  | freeze a n k ih => intro w; unfold Sem.run; have := ih (w.freeze a n); rwa [vk] at this
  | frozen a k ih => intro w; unfold Sem.run; refine Nat.le_trans ?_ (ih _ _); exact Nat.le_refl _
  | getObj r k ih =>
    intro w; unfold Sem.run
    split
    · exact Nat.le_refl _
    · refine Nat.le_trans ?_ (ih _ _); exact Nat.le_refl _
    · exact Nat.le_refl _
  | setObj r o k ih =>
    intro w; unfold Sem.run
    split
    · exact Nat.le_refl _
    · refine Nat.le_trans ?_ (ih _); exact Nat.le_refl _
    · exact Nat.le_refl _
  | choose q k ih =>
    intro w; unfold Sem.run
    split
    · exact ih _ _
    · refine Nat.le_trans ?_ (ih _ _); exact Nat.le_succ _
  | sys c k ih => intro w; unfold Sem.run; exact Nat.le_trans (yt w c) (ih (w.sys c).1 (w.sys c).2)
  | program k ih => intro w; unfold Sem.run; refine Nat.le_trans ?_ (ih _ _); exact Nat.le_refl _
  | mark m k ih => intro w; unfold Sem.run; exact ih _
  | halt h => intro w; exact Nat.le_refl _
theorem pk {α : Type} (P : Program) (s : Sem α) : ∀ w es, w.drawn ≤ (rW (s.runT P w es).1).drawn := by
  induction s with
  | pure a => intro w es; exact Nat.le_refl _
  | load m a k ih =>
    intro w es; unfold Sem.runT
    split
    · exact ih _ w _
    · split
      · exact ih _ w _
      · exact Nat.le_refl _
  | store m a v k ih =>
    intro w es
    cases v <;> simp only [Sem.runT] <;> first
      | exact Nat.le_refl _
      | (split
         · split
           · exact Nat.le_refl _
           · refine Nat.le_trans ?_ (ih _ _); exact Nat.le_refl _
         · split
           · rename_i h
             have := sr h
             refine Nat.le_trans ?_ (ih _ _); exact Nat.le_of_eq this.symm
           · exact Nat.le_refl _)
  | new o k ih => intro w es; unfold Sem.runT; refine Nat.le_trans ?_ (ih _ _ _); exact Nat.le_refl _
  | shape r k ih => intro w es; unfold Sem.runT; refine Nat.le_trans ?_ (ih _ _ _); exact Nat.le_refl _
  | freeze a n k ih => intro w es; unfold Sem.runT; have := ih (w.freeze a n) es; rwa [vk] at this
  | frozen a k ih => intro w es; unfold Sem.runT; refine Nat.le_trans ?_ (ih _ _ _); exact Nat.le_refl _
  | getObj r k ih =>
    intro w es; unfold Sem.runT
    split
    · exact Nat.le_refl _
    · exact ih _ _ _
    · exact Nat.le_refl _
  | setObj r o k ih =>
    intro w es; unfold Sem.runT
    split
    · exact Nat.le_refl _
    · refine Nat.le_trans ?_ (ih _ _); exact Nat.le_refl _
    · exact Nat.le_refl _
  | choose q k ih =>
    intro w es; unfold Sem.runT
    split
    · exact ih _ _ _
    · refine Nat.le_trans ?_ (ih _ _ _); exact Nat.le_succ _
  | sys c k ih => intro w es; unfold Sem.runT; exact Nat.le_trans (yt w c) (ih (w.sys c).1 (w.sys c).2 _)
  | program k ih => intro w es; unfold Sem.runT; refine Nat.le_trans ?_ (ih _ _ _); exact Nat.le_refl _
  | mark m k ih => intro w es; unfold Sem.runT; exact ih _ _
  | halt h => intro w es; exact Nat.le_refl _
theorem rh {α : Type} {P : Program} {s : Sem α} {w w' : World} {a : α} (h : s.run P w = .ok a w') : w.drawn ≤ w'.drawn := by have := lf P s w; rwa [h] at this
theorem qq {α : Type} {P : Program} {s : Sem α} {w w' : World} {a : Halt} (h : s.run P w = .halt a w') : w.drawn ≤ w'.drawn := by have := lf P s w; rwa [h] at this
theorem runT_ok {α : Type} {P : Program} {s : Sem α} {w w' : World} {es es' : Array Event} {a : α} (h : s.runT P w es = (.ok a w', es')) : w.drawn ≤ w'.drawn := by have := pk P s w es; rwa [h] at this
theorem uh {α : Type} {P : Program} {s : Sem α} {w w' : World} {es es' : Array Event} {a : Halt} (h : s.runT P w es = (.halt a w', es')) : w.drawn ≤ w'.drawn := by have := pk P s w es; rwa [h] at this
def gW : GStep → World
  | .go _ w _ => w
  | .comm _ _ _ _ w _ => w
  | .spawn _ _ w _ => w
  | .count _ w _ => w
  | .timer _ _ w _ => w
  | .alone _ _ w _ => w
  | .newcoro _ _ _ w _ => w
  | .coroswitch _ _ _ w _ => w
  | .collect _ w _ => w
  | .watch _ w _ => w
  | .ended _ w _ => w
theorem after_world (es : Array Event) (s : GStep) : gW (GStep.after es s) = gW s := by cases s <;> rfl
def Up (w : World) (s : GStep) : Prop := w.drawn ≤ (gW s).drawn
theorem Up.after {w : World} {es : Array Event} {s : GStep} (h : Up w s) : Up w (GStep.after es s) := by unfold Up; rw [after_world]; exact h
theorem Up.of {w w' : World} {s : GStep} (h : w.drawn ≤ w'.drawn) (h' : Up w' s) : Up w s := Nat.le_trans h h'
theorem endWith_up (w : World) (fd : Nat) (text : ByteArray) (o : Outcome) : Up w (endWith w fd text o) := by
  unfold endWith
  have hs := yt w (.write fd text)
  simp only
  split
  · rename_i h
    rw [h] at hs
    split <;> exact hs
  · rename_i h
    rw [h] at hs; exact hs
  · rename_i h
    rw [h] at hs; exact hs
theorem pw (fr : Frame) (m : String) (w : World) : Up w (endThrow fr m w) := Nat.le_refl _
theorem sk (p : Program) (fr : Frame) (v : Value) (w : World) : Up w (endPrinting p fr v w) := by
  unfold endPrinting
  simp only
  split <;> exact Nat.le_refl _
theorem zc (p : Program) (fr : Frame) (callers : List Frame) (dying : Option Dying) (m : String) (w : World) : Up w (endFatal p fr callers dying m w) := by
  unfold endFatal
  simp only
  split
  · rename_i h; exact rh h
  · rename_i h; exact qq h
  · rename_i h; exact qq h
theorem writeOn_up (p : Program) (fr : Frame) (d : Dying) (f : Fatal) (w : World) : Up w (writeOn p fr d f w) := by
  unfold writeOn
  simp only
  split
  · exact Nat.le_refl _
  · split
    · rename_i h; exact runT_ok h
    · rename_i h; exact uh h
    · rename_i h; exact uh h
    · rename_i h; exact uh h
theorem die_up (p : Program) (fr : Frame) (d : Dying) (w : World) : Up w (die p fr d w) := by
  unfold die
  split
  · exact writeOn_up _ _ _ _ _
  · split
    · split
      · exact Nat.le_refl _
      · exact endWith_up _ _ _ _
    · simp only
      split
      · exact Nat.le_refl _
      · split
        · rename_i h; exact rh h
        · rename_i h; exact qq h
      · refine Up.after ?_
        split
        all_goals (rename_i h; first | (have h' := runT_ok (Prod.ext h rfl : _ = (_, _)); exact h') | (have h' := uh (Prod.ext h rfl : _ = (_, _)); first | exact h' | exact Up.of h' (sk _ _ _ _)) | exact Nat.le_refl _)
      · exact Nat.le_refl _
theorem rg {α : Type} {P : Program} {s : Sem α} {w w' : World} {es : Array Event} {a : α} (h : (s.runT P w es).1 = .ok a w') : w.drawn ≤ w'.drawn := by have := pk P s w es; rwa [h] at this
theorem kw {α : Type} {P : Program} {s : Sem α} {w w' : World} {es : Array Event} {a : Halt} (h : (s.runT P w es).1 = .halt a w') : w.drawn ≤ w'.drawn := by have := pk P s w es; rwa [h] at this
theorem upR_ok {α : Type} {r : Result α} {w w' : World} {a : α} (hr : w.drawn ≤ (rW r).drawn) (h : r = .ok a w') : w.drawn ≤ w'.drawn := by subst h; exact hr
theorem xo {α : Type} {r : Result α} {w w' : World} {a : Halt} (hr : w.drawn ≤ (rW r).drawn) (h : r = .halt a w') : w.drawn ≤ w'.drawn := by subst h; exact hr
theorem early_up (p : Program) (fr : Frame) (callers : List Frame) (dying : Option Dying) (g : Nat) (w : World) : Up w (early p fr callers dying g w) := by
  have h0 := lf p (choose (.early g)) w
  unfold early
  simp only
  generalize Sem.run p (choose (.early g)) w = R at h0 ⊢
  repeat' (first | exact Nat.le_refl _ | split)
  all_goals exact h0
theorem sj (p : Program) (main : Bool) (fr : Frame) (callers : List Frame) (dying : Option Dying) (v : Value) (w : World) : Up w (doReturn p main fr callers dying v w) := by
  unfold doReturn
  simp only
  repeat' (first | exact Nat.le_refl _ | split)
theorem zq (p : Program) (fr : Frame) (callers : List Frame) (dying : Option Dying) (d : Deferred) (w : World) : Up w (callDeferred p fr callers dying d w) := by
  unfold callDeferred
  generalize ((match d.target with | .nil => true | _ => false) && (match fr.mode with | .panicking _ => true | _ => false)) = bb
  cases bb
  rotate_left
  · exact Nat.le_refl _
  · simp only [Bool.false_eq_true, if_false]
    refine Up.after ?_
    split
    all_goals first
      | exact rg ‹_›
      | exact kw ‹_›
      | exact Up.of (kw ‹_›) (zc _ _ _ _ _ _)
      | exact Up.of (kw ‹_›) (pw _ _ _)
      | (split <;> exact rg ‹_›)
theorem unwind_up (p : Program) (main : Bool) (fr : Frame) (callers : List Frame) (dying : Option Dying) (w : World) : Up w (unwind p main fr callers dying w) := by
  unfold unwind
  split
  · simp only
    refine Up.after ?_
    split
    · exact rg ‹_›
    · exact kw ‹_›
  · exact zq _ _ _ _ _ _
  · split
    · exact Nat.le_refl _
    · repeat' (first | exact Nat.le_refl _ | exact rh ‹_› | exact qq ‹_› | exact sk _ _ _ _ | split)
    · split
      · exact sj _ _ _ _ _ _ _
      · simp only
        refine Up.after ?_
        split
        · exact Up.of (rg ‹_›) (sj _ _ _ _ _ _ _)
        · exact kw ‹_›
        · exact kw ‹_›
theorem jb8 (p : Program) (fr : Frame) (callers : List Frame) (dying : Option Dying) (listen : Bool) (s : Sem Next) (w : World) : Up w (stepG.apply p listen fr callers dying s w) := by
  have hr : w.drawn ≤ (rW (if listen then s.runT p w #[] else (s.run p w, #[])).1).drawn := by
    split
    · exact pk _ _ _ _
    · exact lf _ _ _
  unfold stepG.apply
  simp only
  generalize (if listen then s.runT p w #[] else (s.run p w, #[])) = R at hr ⊢
  obtain ⟨r, es⟩ := R
  replace hr : w.drawn ≤ (rW r).drawn := hr
  refine Up.after ?_
  split
  all_goals first
    | exact upR_ok hr ‹_›
    | exact xo hr ‹_›
    | exact Up.of (xo hr ‹_›) (zc _ _ _ _ _ _)
    | exact Up.of (xo hr ‹_›) (pw _ _ _)
    | exact Up.of (xo hr ‹_›) (early_up _ _ _ _ _ _)
    | (split <;> first | exact upR_ok hr ‹_› | exact Up.of (upR_ok hr ‹_›) (pw _ _ _) | (split <;> first | exact upR_ok hr ‹_› | exact Up.of (upR_ok hr ‹_›) (pw _ _ _)))
theorem oper_up (p : Program) (fr : Frame) (callers : List Frame) (dying : Option Dying) (listen : Bool) (w : World) : Up w (stepG.oper p listen fr callers dying w) := by
  unfold stepG.oper
  split
  · exact Nat.le_refl _
  · split <;> exact jb8 _ _ _ _ _ _ _
theorem exec_up (p : Program) (main : Bool) (fr : Frame) (callers : List Frame) (dying : Option Dying) (listen : Bool) (w : World) : Up w (stepG.exec p main listen fr callers dying w) := by
  unfold stepG.exec
  simp only [Option.elim]
  repeat' (first
    | exact Nat.le_refl _
    | exact jb8 _ _ _ _ _ _ _
    | exact oper_up _ _ _ _ _ _
    | exact Up.of (rg ‹_›) (sj _ _ _ _ _ _ _)
    | exact Up.of (rg ‹_›) (jb8 _ _ _ _ _ _ _)
    | refine Up.after ?_
    | exact rg ‹_›
    | exact kw ‹_›
    | exact rh ‹_›
    | exact qq ‹_›
    | split)
theorem stepG_up (p : Program) (main : Bool) (g : Goroutine) (w : World) (listen : Bool) : Up w (stepG p main g w listen) := by
  unfold stepG
  simp only
  split
  · exact die_up _ _ _ _
  · exact exec_up _ _ _ _ _ _ _
  · exact unwind_up _ _ _ _ _ _
def UpS (w : World) : Stepped → Prop
  | .next m => w.drawn ≤ m.world.drawn
  | .ended _ _ => True
theorem drain_drawn (w : World) (c : Nat) : (drain w c).2.drawn = w.drawn := by
  unfold drain; split <;> rfl
theorem xb (m : Machine) (k : Nat) (t : Timer) (when period : Nat) : (retime m k t when period).2.world.drawn = m.world.drawn := by
  unfold retime
  cases t.chan with
  | none => rfl
  | some c => exact drain_drawn m.world c
theorem timerOp_drawn {m : Machine} {op : TimerOp} {v : Value} {m' : Machine} (h : timerOp m op = .ok (v, m')) : m'.world.drawn = m.world.drawn := by
  unfold timerOp at h
  split at h
  · split at h
    · cases h; rfl
    · split at h
      · split at h
        · cases h
        · cases h; rfl
      · cases h
  · unfold timerOp.named at h
    split at h
    · cases h; exact xb _ _ _ _ _
    · cases h
  · split at h
    · rename_i m2 ho
      have e : m2.world.drawn = m.world.drawn := by
        unfold timerOp.opened at ho
        split at ho
        · split at ho
          · cases ho; rfl
          · cases ho
        · cases ho; rfl
      unfold timerOp.named at h
      split at h
      · cases h; exact (xb _ _ _ _ _).trans e
      · cases h
    · cases h
  · cases h; rfl
theorem look_up (p : Program) (gs : Array Goroutine) (rest : Rest) (w : World) : UpS w (look p gs rest w) := by
  unfold look
  split
  · simp only
    split
    · exact True.intro
    · split
      · exact True.intro
      · generalize hR : Sem.run p _ w = R
        have h0 : w.drawn ≤ (rW R).drawn := by rw [← hR]; exact lf _ _ _
        clear hR
        split
        · exact h0
        · exact True.intro
        · exact True.intro
  · exact True.intro
theorem jc2 (p : Program) (rest : Rest) (gs : Array Goroutine) (i : Nat) (g : Goroutine) (cases : Array CommCase) (blocking : Bool) (shape : CommShape) (w : World) : UpS w (communicate p rest gs i g cases blocking shape w).1 := by
  unfold communicate
  simp only
  split
  · exact True.intro
  · split
    · split
      · split
        · rename_i h
          unfold waitingAt at h
          split at h
          · split at h
            · cases h; exact Nat.le_refl _
            · cases h
          · cases h; exact Nat.le_refl _
        · exact True.intro
      · exact Nat.le_refl _
    · split
      · exact True.intro
      · rename_i h
        have h1 := rh h
        clear h
        repeat' (first | exact True.intro | exact h1 | (have h2 := rh ‹Sem.run _ _ _ = Result.ok _ _›; exact Nat.le_trans h1 h2) | (have h2 := qq ‹Sem.run _ _ _ = Result.halt _ _›; exact Nat.le_trans h1 h2) | split)
theorem UpS.of {w w' : World} {s : Stepped} (h : w.drawn ≤ w'.drawn) (h' : UpS w' s) : UpS w s := by
  cases s with
  | next m => exact Nat.le_trans h h'
  | ended o w => exact True.intro
theorem runT2_up (p : Program) (m : Machine) (i : Nat) (listen : Bool) : UpS m.world (runT p m i listen).1 := by
  unfold runT
  simp only
  have hg := stepG_up p (i == 0) (m.gs.swapAt! i { (default : Goroutine) with status := .finished }).1 m.world listen
  generalize stepG p (i == 0) (m.gs.swapAt! i { (default : Goroutine) with status := .finished }).1 m.world listen = s at hg ⊢
  generalize (m.gs.swapAt! i { (default : Goroutine) with status := .finished }) = gg at *
  split
  all_goals first
    | exact True.intro
    | exact hg
    | exact UpS.of hg (jc2 _ _ _ _ _ _ _ _ _)
    | exact UpS.of hg (look_up _ _ _ _)
    | skip
  · dsimp only
    split
    · exact True.intro
    · exact hg
  · dsimp only
    split
    · exact hg
    · exact hg
    · exact True.intro
  · dsimp only
    split
    · rename_i h
      have e := timerOp_drawn h
      exact Nat.le_trans hg (Nat.le_of_eq e.symm)
    · exact hg
    · exact True.intro
    · exact True.intro
def UpM (w : World) : Move → Prop
  | .goroutine m _ => w.drawn ≤ m.world.drawn
  | .machine s _ => UpS w s
theorem UpM.of {w w' : World} {s : Move} (h : w.drawn ≤ w'.drawn) (h' : UpM w' s) : UpM w s := by
  cases s with
  | goroutine m i => exact Nat.le_trans h h'
  | machine s o => exact UpS.of h h'
theorem serve_up (p : Program) (m : Machine) (k : Nat) : UpS m.world (serve p m k) := by
  unfold serve
  split
  · exact True.intro
  · exact Nat.le_refl _
  · simp only
    split
    · exact True.intro
    · exact Nat.le_refl _
theorem pick_up (p : Program) (m : Machine) (rs : List Nat) : UpM m.world (match (choose (.sched rs.length)).run p m.world with
      | .halt _ w => .machine (.ended (.stuck "sched" "") w)
      | .ok k world =>
        if rs.length ≤ 1 then .goroutine { m with world } (rs.getD k 0) else
        match (choose (.extern "sched.slice" 65536)).run p world with
        | .halt _ w => .machine (.ended (.stuck "sched.slice" "") w)
        | .ok n world => .goroutine { m with world, rest := { m.rest with slice := if n = 0 then none else some (rs.getD k 0, n) } } (rs.getD k 0)) := by
  split
  · exact True.intro
  · rename_i h
    have h1 := rh h
    split
    · exact h1
    · split
      · exact True.intro
      · rename_i h2
        exact Nat.le_trans h1 (rh h2)
theorem jb9 (p : Program) (m : Machine) : UpM m.world (askOn p m) := by
  unfold askOn
  simp only
  generalize hR : Sem.run p _ m.world = R
  have h0 : m.world.drawn ≤ (rW R).drawn := by rw [← hR]; exact lf _ _ _
  clear hR
  split
  · exact True.intro
  · split
    · exact UpS.of h0 (serve_up p _ _)
    · split
      · split
        · exact h0
        · split
          · exact h0
          · split <;> exact True.intro
      · split
        · exact UpM.of h0 (pick_up p { m with world := _ } _)
        · generalize hR2 : Sem.run p _ _ = R2
          have h2 := fun {a : Nat} {w' : World} (e : R2 = Result.ok a w') => Nat.le_trans h0 (rh (hR2.trans e))
          clear hR2
          split
          · exact True.intro
          · rename_i world
            exact UpM.of (h2 rfl) (pick_up p { m with world } _)
          · exact Nat.le_trans (h2 rfl) (Nat.le_refl _)
          · rename_i k world
            exact UpM.of (h2 rfl) (pick_up p (Machine.advanceTo { m with world } _) _)
theorem ask_up (p : Program) (m : Machine) : UpM m.world (ask p m) := by
  unfold ask
  split
  · generalize hR : Sem.run p _ m.world = R
    have h0 : m.world.drawn ≤ (rW R).drawn := by rw [← hR]; exact lf _ _ _
    clear hR
    split
    · exact True.intro
    · rename_i world
      have h1 := look_up p m.gs m.rest world
      split
      · rename_i m' e
        rw [e] at h1
        exact UpM.of (Nat.le_trans h0 h1) (jb9 _ _)
      · exact UpS.of h0 h1
    · exact UpM.of h0 (jb9 _ _)
  · exact jb9 _ _
theorem move_up (p : Program) (m : Machine) : UpM m.world (move p m) := by
  unfold move
  split
  · split
    · exact Nat.le_refl _
    · exact True.intro
  · split
    · split
      · exact Nat.le_refl _
      · exact ask_up _ _
    · exact ask_up _ _
theorem step_up {P : Program} {m m' : Machine} (h : step P m = .next m') : m.world.drawn ≤ m'.world.drawn := by
  have hm := move_up P m
  have hs : UpS m.world (step P m) := by
    unfold step stepT
    generalize move P m = M at hm
    cases M with
    | goroutine m1 i => exact UpS.of hm (runT2_up P m1 i true)
    | machine s o => exact hm
  rw [h] at hs
  exact hs
theorem runN_up {P : Program} : ∀ {n : Nat} {m m' : Machine}, runN P n m = .next m' → m.world.drawn ≤ m'.world.drawn
  | 0, m, m', h => by cases h; exact Nat.le_refl _
  | n + 1, m, m', h => by
    unfold runN at h
    split at h
    · rename_i e
      exact Nat.le_trans (step_up e) (runN_up h)
    · rename_i e
      exact (e _ h).elim
theorem yx {P : Program} {f : FuncId} {args : Array Value} {w : World} {R : Ending → World → Prop} (h : Calls P f args w R) (hR : ∀ e w', R e w' → ∃ v, e = .returned v) : Calls P f args w (fun e w' => R e w' ∧ w.drawn ≤ w'.drawn) := by
  intro cs
  obtain ⟨e, w', fr, h1, h2, h3⟩ := h cs
  obtain ⟨v, rfl⟩ := hR _ _ h1
  obtain ⟨n, hn⟩ := h2
  exact ⟨_, w', fr, ⟨h1, runN_up hn⟩, ⟨n, hn⟩, h3⟩
end Go.Proofs.YtidmjdmmpajooaaGreat
namespace Go.Proofs.YtidmjdmmpajooaaGreat
open Go.RowKit Dg Go.Sort Go.Shelf
section
variable {w0 w w':World}
def QE (w0:World):Type:={p:(Value × Value × Value) × Rat // PV w0 (.agg #[p.1.1,p.1.2.1,p.1.2.2]) p.2∧SzQ 100000 p.2}
def pm (x:QE w0):List Value:=[x.1.1.1,x.1.1.2.1,x.1.1.2.2]
def qOf (x:QE w0):Rat:=x.1.2
instance:Inhabited (QE w0):=⟨⟨((.bool false,.slice none 0 0,.slice none 0 0),0),PV.zero _,jn.mono (by decide)⟩⟩
theorem encQ_len (x:QE w0):(pm x).length=3:=rfl
theorem encQ_pc (x:QE w0):PC w0 (pm x) (qOf x):=⟨_,_,_,rfl,x.2.1⟩
theorem encQ_one (x:QE w0):∀v∈pm x,v.oneCell'=true:=(PC.one (encQ_pc x)).2
def cfQ (x y:QE w0):Int:=sgQ (qOf x - qOf y)
theorem ltQ (x y:QE w0):ltOf cfQ x y=decide (qOf x < qOf y):=by
 unfold ltOf cfQ
 exact decide_eq_decide.2 (qg _ _)
theorem swoQ:SWO (ltOf (cfQ (w0:=w0))) where
 irrefl x:=by rw[ltQ];exact decide_eq_false Rat.lt_irrefl
 trans x y z h1 h2:=by
  rw[ltQ] at *
  simp only[decide_eq_true_eq] at *
  grind
 ntrans x y z h1 h2:=by
  rw[ltQ] at *
  simp only[decide_eq_false_iff_not] at *
  grind
theorem qf {α:Type} [Inhabited α] (enc:α→List Value) (k:Nat) (w:World) (blk off m:Nat) (dk:Array α) (os:Array Obj) {j:Nat} (hj:j < w.heap.size) (hn:j≠blk):(sortWorldK enc k w blk off m dk os).heap[j]?=w.heap[j]?:=by
 unfold sortWorldK grow putRowK putRow mapBlock Sort.ahead
 simp only
 rw[Array.getElem?_append_left (by simpa using hj),Array.getElem?_modify,if_neg (by omega)]
theorem pz {α:Type} [Inhabited α] (enc:α→List Value) (k:Nat) (w:World) (blk off m:Nat) (dk:Array α) (os:Array Obj) {B:Nat} (hB:B≤blk) (hb:blk < w.heap.size):Below B w (sortWorldK enc k w blk off m dk os):=
 ⟨rfl,rfl,rfl,by rw[show (sortWorldK enc k w blk off m dk os).heap.size=w.heap.size + os.size from by unfold sortWorldK grow;simp[size_putRowK,Sort.ahead]];omega,fun j hj=>qf enc k w blk off m dk os (by omega) (by omega)⟩
theorem jf4 {α:Type} [Inhabited α] (enc:α→List Value) (k:Nat) (w:World) (blk off m:Nat) (dk:Array α) (os:Array Obj) (ht:TyB 37 w blk):aw w (sortWorldK enc k w blk off m dk os):=
 ⟨(pz enc k w blk off m dk os (Nat.zero_le _) ht.lt).size,fun j t hj hd=>qf enc k w blk off m dk os hj.lt (fun e=>by
  subst e
  rcases hd with rfl|rfl
  ·exact TyB.ne ht hj (by decide) rfl
  ·exact TyB.ne ht hj (by decide) rfl)⟩
theorem grow_of (hb:Below w.heap.size w w') (hd:w.drawn≤w'.drawn):∃q os,w'=grow (w.drewN q) os:=by
 refine⟨w'.drawn - w.drawn,w'.heap.extract w.heap.size w'.heap.size,?_⟩
 obtain⟨h1,t1,d1,o1,p1⟩:=w
 obtain⟨h2,t2,d2,o2,p2⟩:=w'
 obtain⟨e1,e2,e3,e4,e5⟩:=hb
 simp only at e1 e2 e3 e4 e5 hd
 subst e1 e2 e3
 unfold grow World.drewN
 simp only[World.mk.injEq,true_and,and_true]
 refine⟨?_,by omega⟩
 refine Array.ext_getElem? fun i=>?_
 by_cases hi:i < h1.size
 ·rw[Array.getElem?_append_left hi,e5 i hi]
 ·rw[Array.getElem?_append_right (by omega),Array.getElem?_extract]
  by_cases hi2:i < h2.size
  ·rw[if_pos (by omega),show h1.size + (i - h1.size)=i from by omega]
  ·rw[if_neg (by omega),Array.getElem?_eq_none (by omega)]
theorem cmpQ {blk off size:Nat} (ht:TyB 37 w0 blk):CmpLays Tryz.prog 12 #[] (pm (w0:=w0)) 3 cfQ blk off size w0:=by
 intro m os dk _ x y
 have hk:=jf4 (pm (w0:=w0)) 3 w0 blk off m dk os ht
 have hc:=yx (uk (x.2.1.keep hk) (y.2.1.keep hk) (SzQ.fit x.2.2) (SzQ.fit y.2.2)) (fun e w' h=>⟨_,h.1⟩)
 refine hc.mono ?_
 rintro e w' ⟨⟨rfl,hb⟩,hd⟩
 exact⟨rfl,grow_of hb hd⟩
theorem flatQ {xs:List (QE w0)} {t:Nat} (h:t < xs.length * 3):(xs.map pm).flatten[t]?=some ((flatK pm 3 xs.toArray)[t]!):=by
 have hi:t / 3 < xs.length:=by omega
 have h1:(xs.map pm)[t / 3]?=some (pm (xs[t / 3]'hi)):=by rw[List.getElem?_map,List.getElem?_eq_getElem hi];rfl
 have h2:=js (size:=3) (xs.map pm) (fun cs hcs=>by obtain⟨y,_,rfl⟩:=List.mem_map.1 hcs;rfl) (t / 3) (t % 3) _ h1 (by omega)
 rw[show t / 3 * 3 + t % 3=t from by omega] at h2
 rw[h2,get_flatK _ _ _ _ (by simpa using h)]
 have e:xs.toArray[t / 3]! =xs[t / 3]'hi:=by simp[hi]
 rw[e]
 have h3:t % 3 < (pm (xs[t / 3]'hi)).length:=by rw[encQ_len];omega
 rw[List.getElem?_eq_getElem h3,getElem!_pos (pm (xs[t / 3]'hi)) (t % 3) h3]
theorem chooseQ {α:Type} [Inhabited α] {Q:Nat→α→Prop} {n:Nat} (h:∀i,i < n→∃y,Q i y):∃f:Nat→α,∀i,i < n→Q i (f i):=by
 refine⟨fun i=>if hi:i < n then Classical.choose (h i hi) else default,fun i hi=>?_⟩
 show Q i (if hi:i < n then Classical.choose (h i hi) else default)
 rw[dif_pos hi]
 exact Classical.choose_spec (h i hi)
theorem ownQ {base:Nat} {v:Value} {L:List Rat} (h:cw base 37 3 PC w v L) (h1:1≤L.length) (hz:∀i,i < L.length→SzQ 100000 (bj L i)):
  ∃(g cap:Nat) (xs:List (QE w)),v=.slice (some ⟨g,0,none⟩) xs.toArray.size cap∧base≤g∧TyB 37 w g∧xs.map qOf=L∧HoldsK pm 3 w g 0 xs.toArray∧xs.toArray.size≤cap∧cap≤maxLen∧∃cur,w.heap[g]?=some (.cells cur 37 (0,0))∧cur.size=cap * 3:=by
 obtain⟨css,c1,c2,c3,hown⟩:=h
 have hall:∀i,i < L.length→∃y:QE w,css[i]?=some (pm y)∧qOf y=bj L i:=by
  intro i hi
  have hc:css[i]?=some (css[i]'(by omega)):=List.getElem?_eq_getElem (by omega)
  obtain⟨a,b,c,e,hp⟩:=c3 i _ _ hc (ia hi)
  exact⟨⟨((a,b,c),bj L i),hp,hz i hi⟩,by rw[hc,e];rfl,rfl⟩
 obtain⟨f,hf⟩:=chooseQ hall
 have hxs:((List.range L.length).map f).map qOf=L:=by
  refine List.ext_getElem? fun i=>?_
  rw[List.getElem?_map,List.getElem?_map]
  by_cases hi:i < L.length
  ·rw[List.getElem?_range hi,ia hi]
   show some (qOf (f i))=_
   rw[(hf i hi).2]
  ·rw[List.getElem?_eq_none (by simpa using hi),List.getElem?_eq_none (by omega)];rfl
 have hcs:((List.range L.length).map f).map pm=css:=by
  refine List.ext_getElem? fun i=>?_
  rw[List.getElem?_map,List.getElem?_map]
  by_cases hi:i < L.length
  ·rw[List.getElem?_range hi,(hf i hi).1];rfl
  ·rw[List.getElem?_eq_none (by simpa using hi),List.getElem?_eq_none (by omega)];rfl
 obtain⟨o1,o2⟩:=hown
 rcases o2 with ⟨_,e0⟩|⟨g,cap,cur,hv,hb,hg,hn,hc,hs,htk⟩
 ·omega
 ·refine⟨g,cap,(List.range L.length).map f,by rw[hv];simp,hb,⟨_,_,hg⟩,hxs,?_,by simpa using hn,hc,cur,hg,hs⟩
  intro j hj
  have hj':j < L.length * 3:=by simpa using hj
  have e1:=flatQ (xs:=(List.range L.length).map f) (t:=j) (by simpa using hj')
  rw[hcs,←htk,List.getElem?_take_of_lt hj',Array.getElem?_toList] at e1
  rw[Nat.zero_add]
  constructor
  ·unfold World.cell?
   rw[hg]
   exact e1
  ·unfold World.frozen?
   rw[hg]
   simp
theorem srt_unique {S T:List Rat} (hp:S.Perm T) (hs:S.Pairwise (·≤·)) (ht:T.Pairwise (·≤·)):S=T:=by
 have hl:=hp.length_eq
 refine List.ext_getElem? fun i=>?_
 by_cases hi:i < S.length
 ·rw[ia hi,ia (show i < T.length by omega)]
  congr 1
  refine eq_of_le fun v=>?_
  rw[ord_iff v S hs i hi,ord_iff v T ht i (by omega)]
  unfold atM
  rw[hp.countP_eq]
 ·rw[List.getElem?_eq_none (by omega),List.getElem?_eq_none (by omega)]
theorem ownQ_put {base g cap:Nat} {xs:List (QE w)} {d:Array (QE w)} {m:Nat} {os:Array Obj} {cur:Array Value} (hb:base≤g) (hg:w.heap[g]?=some (.cells cur 37 (0,0))) (hcap:xs.toArray.size≤cap) (hmax:cap≤maxLen) (hcur:cur.size=cap * 3)
  (hsz:d.size=xs.toArray.size):
  cw base 37 3 PC (sortWorldK pm 3 w g 0 m d os) (.slice (some ⟨g,0,none⟩) xs.toArray.size cap) (d.toList.map qOf):=by
 have hsz':d.toList.length=xs.length:=by simpa using hsz
 have hk:=jf4 (pm (w0:=w)) 3 w g 0 m d os ⟨_,_,hg⟩
 refine⟨d.toList.map pm,by simp,fun cs hcs=>by obtain⟨y,_,rfl⟩:=List.mem_map.1 hcs;rfl,fun i cs x hc hx=>?_,?_⟩
 ·rw[List.getElem?_map] at hx
  rw[List.getElem?_map] at hc
  cases hy:d.toList[i]? with
  | none=>rw[hy] at hc;cases hc
  | some y=>
   rw[hy] at hc hx
   cases hc
   cases hx
   exact PC.kept _ _ _ _ (encQ_pc y) hk
 ·have hl:(d.toList.map qOf).length=xs.length:=by rw[List.length_map,hsz']
  have hfl:(d.toList.map pm).flatten.length=xs.length * 3:=by
   rw[dz (size:=3) _ (fun cs hcs=>by obtain⟨y,_,rfl⟩:=List.mem_map.1 hcs;rfl),List.length_map,hsz']
  refine⟨by rw[hl,hfl],Or.inr ⟨g,cap,putCells id 0 (flatK pm 3 d) cur,by rw[hl];simp,hb,?_,by rw[hl];simpa using hcap,hmax,by simp[putCells,hcur],?_⟩⟩
  ·have hlt:=lt_of_block hg
   unfold sortWorldK grow putRowK putRow mapBlock Sort.ahead
   simp only
   rw[Array.getElem?_append_left (by simpa using hlt),Array.getElem?_modify,if_pos rfl,hg]
   rfl
  ·rw[hl]
   refine List.ext_getElem? fun t=>?_
   by_cases ht:t < xs.length * 3
   ·have hd3:t < d.toList.length * 3:=by rw[hsz'];exact ht
    rw[List.getElem?_take_of_lt ht,Array.getElem?_toList]
    have e:=flatQ (xs:=d.toList) hd3
    rw[Array.toArray_toList] at e
    rw[e]
    unfold putCells
    have hc:t < cur.size:=by
     have:xs.length≤cap:=by simpa using hcap
     rw[hcur]
     omega
    rw[Array.getElem?_mapIdx,Array.getElem?_eq_getElem hc]
    have hz:t < (flatK pm 3 d).size:=by rw[size_flatK];simpa using hd3
    simp only[Option.map_some,Nat.zero_le,Nat.zero_add,true_and,Nat.sub_zero,hz,if_true,id]
   ·rw[List.getElem?_eq_none (by rw[List.length_take];omega),List.getElem?_eq_none (by rw[hfl];omega)]
theorem srtQ_of {xs:List (QE w)} {d:Array (QE w)} (hperm:PermIn 0 xs.toArray.size xs.toArray d) (hsort:SortedIn (ltOf cfQ) 0 xs.toArray.size d):d.toList.map qOf=ym (xs.map qOf):=by
 obtain⟨hsz,_,hp⟩:=hperm
 have e1:d.extract 0 xs.toArray.size=d:=by rw[←hsz];simp
 have e2:xs.toArray.extract 0 xs.toArray.size=xs.toArray:=by simp
 rw[e1,e2] at hp
 refine srt_unique ((hp.map qOf).trans (by simpa using (yp (xs.map qOf)).symm)) ?_ (srtQ_sorted _)
 rw[List.pairwise_map,List.pairwise_iff_getElem]
 intro i j hi hj hij
 have:=hsort i j (Nat.zero_le _) hij (by rw[←hsz];simpa using hj)
 rw[ltQ] at this
 rw[getElem!_pos d j (by simpa using hj),getElem!_pos d i (by simpa using hi)] at this
 have h3:=of_decide_eq_false this
 rw[Array.getElem_toList,Array.getElem_toList]
 exact Rat.not_lt.1 h3
theorem sl_SortQ {base:Nat} {v:Value} {L:List Rat} (w:World) (h:cw base 37 3 PC w v L) (h1:1≤L.length) (h2:L.length≤1000) (hz:∀i,i < L.length→SzQ 100000 (bj L i)):
  Calls Tryz.prog 123 #[v,.func (.func 12) #[] #[]] w (fun e w'=>e=.returned (.tuple #[])∧cw base 37 3 PC w' v (ym L)∧Below base w w'):=by
 obtain⟨g,cap,xs,rfl,hb,ht,hq,hH,hcap,hmax,cur,hg,hcur⟩:=ownQ h h1 hz
 have hlen:xs.length=L.length:=by rw[←hq];simp
 have hcon:=AnyQ.slices_SortFunc Tryz.sortL 3 Tryz.isAgg37 Tryz.sizeOf37 (pm (w0:=w)) encQ_len encQ_one cfQ swoQ 12 #[] g 0 cap xs.toArray w (enters_of Tryz.func12 (by kernel_rfl) rfl) (cmpQ ht) hH ht.lt (by simp;omega)
 change Calls Tryz.prog 123 _ _ _ at hcon
 refine hcon.mono ?_
 rintro e w' ⟨rfl,d,n,os,hp,hs,rfl⟩
 refine⟨rfl,?_,pz _ _ _ _ _ _ _ _ hb ht.lt⟩
 have:=ownQ_put (m:=n) (os:=os) hb hg hcap hmax hcur hp.1
 rw[srtQ_of hp hs,hq] at this
 exact this
end
end Go.Proofs.YtidmjdmmpajooaaGreat
namespace Go.Proofs.YtidmjdmmpajooaaGreat
open Go.RowKit Dg
attribute [local go_sem ↓] Go.wp_at_zero Go.wp_at_succ
theorem pl_lenc (vxy:Value) (x y:Rat) (vzu:Value) (z u:Rat) (w:World) (hxy:PV2 w vxy x y) (sx:Mid x) (hzu:PV2 w vzu z u) (sz:Mid z):
  Calls Tryz.prog 129 #[vxy,vzu] w (fj w (.int .i64 (sgQ (x - z)))):=by
 obtain⟨shx,ahx,nhx,chx,Ahx,Nhx,Chx,shy,ahy,nhy,chy,Ahy,Nhy,Chy,rfl,hx,hy⟩:=hxy.shape
 clear hxy
 obtain⟨shz,ahz,nhz,chz,Ahz,Nhz,Chz,shu,ahu,nhu,chu,Ahu,Nhu,Chu,rfl,hz,hu⟩:=hzu.shape
 clear hzu
 have hs:=Below.refl w.heap.size w
 go_enter Tryz.func129,Tryz.ntmps129
 go_wp2_with fail
 refine Calls.abs ?_
 intro w1 hW
 have hG:Gr [] w w1:=by rw[hW];exact (Gr.refl _ _).alloc.alloc
 have hk:=hG.keep True.intro
 have sz_w1:=hs.size
 have Bla:Bx w1 (w.heap.size) 164 #[.bool shx,.slice ahx nhx chx,.slice Ahx Nhx Chx,.bool shy,.slice ahy nhy chy,.slice Ahy Nhy Chy]:=by rw[hW];exact ((Bx.new0 _ _ _).alloc _)
 have Blb:Bx w1 (w.heap.size + 1) 164 #[.bool shz,.slice ahz nhz chz,.slice Ahz Nhz Chz,.bool shu,.slice ahu nhu chu,.slice Ahu Nhu Chu]:=by rw[hW];exact (Bx.new0 _ _ _)
 replace hs:=hs.trans (hG.below0 hs.size)
 revert hu;revert hy hz;revert hx;refine ke hk ?_;intro hx hy hz hu
 clear hW hG hk
 have hz_w1:=Blb.lt
 with_reducible refine (uk hx hz (SzQ.fit sx) (SzQ.fit sz)).mono ?_
 rintro e w2 ⟨rfl,hb⟩
 revert Bla Blb hx hy hz hu;refine mS hs hb ?_;clear hs hb;intro hs Bla Blb hx hy hz hu
 obtain⟨sg1,B0⟩:∃s:Int,s=sgQ (x - z):=⟨_,rfl⟩
 rw[←B0]
 replace B0:=ae B0
 go_wp2
 go_ret
 exact⟨(by rw[←B0.out];rfl),hs⟩
end Go.Proofs.YtidmjdmmpajooaaGreat
