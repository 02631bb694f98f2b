/- The evaluator is right of the program, calls, loops and drawn regions with it. -/
import Derived.Test.YtaifojkkklacmaaGreatDoorA1
import Derived.Orders
set_option linter.unusedVariables false
set_option linter.unusedSimpArgs false
set_option linter.unusedSectionVars false
set_option linter.unnecessarySimpa false
namespace Go.Ab
open Go
variable [Val]
def Callable (P : Program) (f : FuncId) : Prop := ∃ fn, P.funcs[f]? = some fn ∧ (fn.name == "runtime.NumGoroutine") = false ∧ fn.body.isNone = false
def CallOK (P : Program) (C : CO) : Prop := ∀ f args h r, C f args h = some r → Callable P f ∧ ∀ w im ι (vs : List Value), HRep w im ι h → vs.length = args.length →
  (∀ (i : Nat) v a, vs[i]? = some v → args[i]? = some a → RepA w im ι h v a) → Calls P f vs.toArray w fun e w' => ∃ v, e = .returned v ∧ Fits w im ι h v r.1 w' r.2
section
variable {P : Program} {w w' : World} {im im' : Nat → Prop} {ι ι' : Nat → Option Nat} {h h' : H}

theorem HRep.nil (G : ∀ b, im b → b < w.heap.size) : HRep w im ι [] where
  obj := fun id o ho => by simp at ho
  inj := fun i j b hi => by simp at hi
  imLt := G
  fzIm := fun id o b ho => by simp at ho
theorem Wr.nil {b : Nat} : ¬ Wr ι [] b := fun ⟨id, o, ho, _⟩ => by simp at ho
theorem HRep.imF_lt (G : HRep w im ι h) (strict : Bool) : ∀ b, imF strict im ι h b → b < w.heap.size := fun b hb => by
  rcases hb with hb | ⟨_, id, o, ho, _, hi⟩
  · exact G.imLt b hb
  · exact G.old (List.getElem?_eq_some_iff.1 ho).1 hi

/-- Behind a call that touched nothing of what was there. -/
theorem HRep.kept (G : HRep w im ι h) (hos : w'.os = w.os) (htape : w'.tape = w.tape) (hout : w'.output = w.output) (hsz : w.heap.size ≤ w'.heap.size)
    (hb : ∀ b, b < w.heap.size → w'.heap[b]? = w.heap[b]?) (X : Nat → Prop) (hX : ∀ b, X b → w.heap.size ≤ b ∧ b < w'.heap.size) :
    HRep w' (fun b => im b ∨ X b) ι h ∧ Stp w im ι h w' (fun b => im b ∨ X b) ι h := by
  have s : Stp w im ι h w' (fun b => im b ∨ X b) ι h :=
    { Stp.refl w im ι h with
      os := hos, tape := htape, output := hout, size := hsz
      blk := fun b hlt _ => hb b hlt
      cells := fun b c e f hc => ⟨c, (hb b (lt_of_heap hc)).trans hc, rfl⟩
      imS := fun b h => .inl h
      imN := fun b h => h.elim .inl fun h => .inr (.inr (hX b h).1) }
  refine ⟨G.step s (fun id o' ho => .inl ⟨ho, rfl, fun b hi => hb b (G.old (List.getElem?_eq_some_iff.1 ho).1 hi)⟩) G.inj (fun b h => h.elim (fun h => Nat.lt_of_lt_of_le (G.imLt b h) hsz) fun h => (hX b h).2) (fun id o b ho hi => ⟨fun hf => .inl ((G.fzIm id o b ho hi).1 hf), fun hf hh => ?_⟩), s⟩
  rcases hh with hh | hh
  · exact (G.fzIm id o b ho hi).2 hf hh
  · have := G.old (List.getElem?_eq_some_iff.1 ho).1 hi
    have := (hX b hh).1
    omega

theorem frzs_ok (G : HRep w im ι h) (strict : Bool) {args as : List A} {vs : List Value} (hl : vs.length = args.length) (hr : ∀ (i : Nat) v a, vs[i]? = some v → args[i]? = some a → RepA w im ι h v a)
    (e : args.mapM (frz h strict 6) = some as) : vs.length = as.length ∧ ∀ (i : Nat) v a, vs[i]? = some v → as[i]? = some a → RepA w (imF strict im ι h) (fun _ => none) [] v a := by
  refine ⟨by rw [hl, mapM_length e], fun i v a hv ha => ?_⟩
  obtain ⟨x, h1, h2⟩ := mapM_get' e i a ha
  exact (frz_ok (ι' := fun _ => none) G strict 6 x a v (hr i v x hv h1) h2).1

theorem RepA.nilMono {im1 : Nat → Prop} {ι1 : Nat → Option Nat} {h1 : H} {v : Value} {a : A} (hr : RepA w im ι [] v a) (hi : ∀ b, im b → im1 b) : RepA w im1 ι1 h1 v a := by
  have key : ∀ (hh : H) v a, RepA w im ι hh v a → hh = [] → RepA w im1 ι1 h1 v a := fun hh v a hr => by
    induction hr with
    | d hd => exact fun _ => .d (hd.mono (fun _ _ => rfl) hi)
    | nils ad => exact fun _ => .nils ad
    | own ho => intro e; subst e; simp at ho
    | ptr ho => intro e; subst e; simp at ho
    | ipt vals hib hv hd => exact fun _ => .ipt vals (hi _ hib) hv fun j c hc => (hd j c hc).mono (fun _ _ => rfl) hi
    | fn hl hr ih => exact fun e => .fn hl fun i v a h1 h2 => ih i v a h1 h2 e
    | agg hl h1 hr ih => exact fun e => .agg hl h1 fun i v a g1 g2 => ih i v a g1 g2 e
    | tup hl hr ih => exact fun e => .tup hl fun i v a g1 g2 => ih i v a g1 g2 e
    | dead v => exact fun _ => .dead v
  exact key [] v a hr rfl

theorem callP_ok {C : CO} (hC : CallOK P C) {sl : Bool} {f : FuncId} {args : List A} {a' : A} {vs : List Value} (G : HRep w im ι h) (hl : vs.length = args.length)
    (hr : ∀ (i : Nat) v a, vs[i]? = some v → args[i]? = some a → RepA w im ι h v a) (e : callP C sl f args h = some a') :
    Callable P f ∧ Calls P f vs.toArray w fun e w' => ∃ v, e = .returned v ∧ Fits w im ι h v a' w' h := by
  simp only [callP] at e
  cases has : args.mapM (frz h sl 6) with
  | none => rw [has] at e; simp at e
  | some as =>
    rw [has, Option.bind_some] at e
    simp only [runP] at e
    cases hrun : C f as [] with
    | none => rw [hrun] at e; simp at e
    | some r =>
      rw [hrun, Option.bind_some] at e
      cases hf : frz r.2 false 6 r.1 with
      | none => rw [hf] at e; simp at e
      | some v0 =>
        rw [hf, Option.bind_some] at e
        obtain ⟨k1, k2⟩ := frzs_ok G sl hl hr has
        have hne : (sl || noSl v0) = true ∧ v0 = a' := by
          cases hb : (sl || noSl v0) with
          | true => rw [hb] at e; simp at e; exact ⟨rfl, e⟩
          | false => rw [hb] at e; simp at e
        obtain ⟨hns, rfl⟩ := hne
        refine ⟨(hC f as [] r hrun).1, ((hC f as [] r hrun).2 w (imF sl im ι h) (fun _ => none) vs (HRep.nil (G.imF_lt sl)) k1 k2).mono ?_⟩
        rintro e' w' ⟨v, rfl, im1, ι1, G1, hra, s⟩
        refine ⟨v, rfl, ?_⟩
        have hblk : ∀ b, b < w.heap.size → w'.heap[b]? = w.heap[b]? := fun b hb => s.blk b hb Wr.nil
        have hfr := (frz_ok (ι' := fun _ => none) G1 false 6 r.1 v0 v hra hf).1
        obtain ⟨G2, s2⟩ := G.kept s.os s.tape s.output s.size hblk (fun b => w.heap.size ≤ b ∧ imF false im1 ι1 r.2 b) (fun b hb => ⟨hb.1, G1.imF_lt false b hb.2⟩)
        refine ⟨_, ι, G2, ?_, s2⟩
        cases sl with
        | true =>
          refine hfr.nilMono fun b hb => ?_
          rcases hb with hb | ⟨_, hb⟩
          · rcases s.imN b hb with h1 | h1 | h1
            · rcases h1 with h1 | ⟨h1, _⟩
              · exact .inl h1
              · cases h1
            · exact (Wr.nil h1).elim
            · exact .inr ⟨h1, .inl hb⟩
          · rcases s.wr b hb with h1 | h1
            · exact (Wr.nil h1).elim
            · exact .inr ⟨h1, .inr ⟨rfl, hb⟩⟩
        | false => exact hfr.sc (by simpa using hns)
end
end Go.Ab

namespace Go.Ab
open Go
variable [Val]
section
variable {P : Program} {w w' : World} {im im' : Nat → Prop} {ι ι' : Nat → Option Nat} {h h' : H}

/-! truncation -/
theorem RepA.takeD {n : Nat} {v : Value} {a : A} (hr : RepA w im ι h v a) : ∀ (d : Nat), refsD n d a = true → RepA w im ι (h.take n) v a := by
  induction hr with
  | d hd => intro _ _; exact .d hd
  | nils ad => intro _ _; exact .nils ad
  | @own id off len o ad cap ho hl hc hcur =>
    intro d hn
    have : id < n := by cases d <;> simpa [refsD] using hn
    exact .own (by rw [List.getElem?_take_of_lt this]; exact ho) hl hc hcur
  | @ptr id ver row off o ad ho hv hcur =>
    intro d hn
    have : id < n := by cases d <;> simpa [refsD] using hn
    exact .ptr (by rw [List.getElem?_take_of_lt this]; exact ho) hv hcur
  | ipt vals hi hv hd => intro _ _; exact .ipt vals hi hv hd
  | fn hl hr ih =>
    intro d hn
    cases d with
    | zero => cases hn
    | succ d => exact .fn hl fun i v a h1 h2 => ih i v a h1 h2 d (List.all_eq_true.1 hn a (List.mem_of_getElem? h2))
  | agg hl h1 hr ih =>
    intro d hn
    cases d with
    | zero => cases hn
    | succ d => exact .agg hl h1 fun i v a g1 g2 => ih i v a g1 g2 d (List.all_eq_true.1 hn a (List.mem_of_getElem? g2))
  | tup hl hr ih =>
    intro d hn
    cases d with
    | zero => cases hn
    | succ d => exact .tup hl fun i v a g1 g2 => ih i v a g1 g2 d (List.all_eq_true.1 hn a (List.mem_of_getElem? g2))
  | dead v => intro _ _; exact .dead v
theorem RepA.take {n : Nat} {v : Value} {a : A} (hr : RepA w im ι h v a) (hn : refs n a = true) : RepA w im ι (h.take n) v a := hr.takeD 8 hn
theorem take_some {n id : Nat} {o : Obj} (ho : (h.take n)[id]? = some o) : id < n ∧ h[id]? = some o := by
  rw [List.getElem?_take] at ho
  split at ho
  · exact ⟨‹_›, ho⟩
  · cases ho
theorem HRep.take {n : Nat} (G : HRep w im ι h) (hok : okH n (h.take n) = true) : HRep w im ι (h.take n) where
  obj := fun id o ho => by
    obtain ⟨hlt, ho'⟩ := take_some ho
    rcases G.obj id o ho' with h0 | ⟨b, c, e, h1, h2, h3, h4, h5⟩
    · exact .inl h0
    · refine .inr ⟨b, c, e, h1, h2, h3, h4, fun i j r a g1 g2 => ?_⟩
      obtain ⟨v, g3, g4, g5⟩ := h5 i j r a g1 g2
      refine ⟨v, g3, g4, g5.take ?_⟩
      have k1 := List.all_eq_true.1 hok o (List.mem_of_getElem? ho)
      have k2 := List.all_eq_true.1 k1 r (List.mem_of_getElem? g1)
      exact List.all_eq_true.1 k2 a (List.mem_of_getElem? g2)
  inj := fun i j b hi hj => G.inj i j b (by rw [List.length_take] at hi; omega) (by rw [List.length_take] at hj; omega)
  imLt := G.imLt
  fzIm := fun id o b ho => G.fzIm id o b (take_some ho).2
theorem Stp.take {n : Nat} (s : Stp w im ι h w' im' ι' h') (hn : h.length ≤ n) : Stp w im ι h w' im' ι' (h'.take n) :=
  { s with
    wr := fun b ⟨id, o, ho, hf, hi⟩ => s.wr b ⟨id, o, (take_some ho).2, hf, hi⟩
    len := by rw [List.length_take]; have := s.len; omega
    objs := fun id o o' h1 h2 => s.objs id o o' h1 (take_some h2).2 }

theorem callS_ok {C : CO} (hC : CallOK P C) {f : FuncId} {args : List A} {r : A × H} {vs : List Value} (G : HRep w im ι h) (hl : vs.length = args.length)
    (hr : ∀ (i : Nat) v a, vs[i]? = some v → args[i]? = some a → RepA w im ι h v a) (e : callS C f args h = some r) :
    Callable P f ∧ Calls P f vs.toArray w fun e w' => ∃ v, e = .returned v ∧ Fits w im ι h v r.1 w' r.2 := by
  simp only [callS] at e
  cases hrun : C f args h with
  | none => rw [hrun] at e; simp at e
  | some r0 =>
    rw [hrun, Option.map_some] at e
    simp only [Option.some.injEq] at e
    subst e
    refine ⟨(hC f args h r0 hrun).1, ((hC f args h r0 hrun).2 w im ι vs G hl hr).mono ?_⟩
    rintro e' w' ⟨v, rfl, im1, ι1, G1, hra, s⟩
    refine ⟨v, rfl, ?_⟩
    simp only [truncT]
    split
    · rename_i hok
      simp only [List.all_cons, List.all_nil, Bool.and_true, Bool.and_eq_true] at hok
      exact ⟨im1, ι1, G1.take hok.2, hra.take hok.1, s.take (Nat.le_refl _)⟩
    · exact ⟨im1, ι1, G1, hra, s⟩

/-! results with objects of their own -/
theorem dA_rep {w1 : World} {im1 : Nat → Prop} {ι1 : Nat → Option Nat} {h1 : H} {v : Value} {a : A} (hr : RepA w im ι h v a) (hd : dA a = true) (hb : ∀ b, im b → w1.heap[b]? = w.heap[b]?) (hi : ∀ b, im b → im1 b) : RepA w1 im1 ι1 h1 v a := by
  cases hr with
  | d h0 => exact .d (h0.mono hb hi)
  | nils ad => exact .nils ad
  | _ => simp [dA] at hd

theorem renA1_ok {ids : List Nat} {base : Nat} {os hh : H} {im1 im2 : Nat → Prop} {ι1 ι2 : Nat → Option Nat} {h2 : H} {v : Value} {a a' : A} (hos : ids.mapM (fun i => hh[i]?) = some os)
    (h2g : ∀ i, i < os.length → h2[base + i]? = os[i]?) (hι : ∀ (i k : Nat), ids[i]? = some k → ι2 (base + i) = ι1 k) (hi : ∀ b, im1 b → im2 b)
    (hr : RepA w im1 ι1 hh v a) (e : renA1 ids base a = some a') : RepA w im2 ι2 h2 v a' := by
  cases a with
  | int k n => simp only [renA1, Option.some.injEq] at e; subst e; exact dA_rep hr rfl (fun _ _ => rfl) hi
  | sym k n => simp only [renA1, Option.some.injEq] at e; subst e; exact dA_rep hr rfl (fun _ _ => rfl) hi
  | bool b => simp only [renA1, Option.some.injEq] at e; subst e; exact dA_rep hr rfl (fun _ _ => rfl) hi
  | imm rows => simp only [renA1, Option.some.injEq] at e; subst e; exact dA_rep hr rfl (fun _ _ => rfl) hi
  | nils => simp only [renA1, Option.some.injEq] at e; subst e; exact dA_rep hr rfl (fun _ _ => rfl) hi
  | own id off len =>
    simp only [renA1] at e
    cases hx : ids.idxOf? id with
    | none => rw [hx] at e; simp at e
    | some i =>
      rw [hx] at e
      simp only [Option.map_some, Option.some.injEq] at e
      subst e
      have hid : ids[i]? = some id := by
        rw [List.idxOf?, List.findIdx?_eq_some_iff_getElem] at hx
        obtain ⟨hlt, h1, _⟩ := hx
        rw [List.getElem?_eq_getElem hlt]
        simpa using h1
      have hil : i < os.length := by rw [mapM_length hos]; exact (List.getElem?_eq_some_iff.1 hid).1
      cases hr with
      | d hd => cases hd
      | @own _ _ _ o ad cap ho hl hc hcur =>
        have hoi : os[i]? = some o := by
          have := mapM_get hos i id os[i] hid (List.getElem?_eq_getElem hil)
          rw [ho] at this
          rw [List.getElem?_eq_getElem hil, ← Option.some.inj this]
        refine .own (o := o) (by rw [h2g i hil, hoi]) hl hc fun he => ?_
        rcases hcur he with h0 | ⟨b, hb, h3⟩
        · exact .inl h0
        · exact .inr ⟨b, (hι i id hid).trans hb, h3⟩
  | _ => simp [renA1] at e

theorem callK_ok {C : CO} (hC : CallOK P C) {f : FuncId} {args : List A} {r : A × H} {vs : List Value} (G : HRep w im ι h) (hl : vs.length = args.length)
    (hr : ∀ (i : Nat) v a, vs[i]? = some v → args[i]? = some a → RepA w im ι h v a) (e : callK C f args h = some r) :
    Callable P f ∧ Calls P f vs.toArray w fun e w' => ∃ v, e = .returned v ∧ Fits w im ι h v r.1 w' r.2 := by
  simp only [callK] at e
  cases has : args.mapM (frz h true 6) with
  | none => rw [has] at e; simp at e
  | some as =>
    rw [has, Option.bind_some] at e
    cases hrun : C f as [] with
    | none => rw [hrun] at e; simp at e
    | some r0 =>
      rw [hrun, Option.bind_some] at e
      cases hg : gcR h.length r0 with
      | none => rw [hg] at e; simp at e
      | some r1 =>
        rw [hg, Option.map_some] at e
        simp only [Option.some.injEq] at e
        subst e
        simp only [gcR] at hg
        cases hos : (ownIds r0.1).mapM (fun i => r0.2[i]?) with
        | none => rw [hos] at hg; simp at hg
        | some os =>
          rw [hos, Option.bind_some] at hg
          split at hg
          case isFalse => cases hg
          rename_i hh
          obtain ⟨hflat, hnd⟩ := hh
          cases hren : renA (ownIds r0.1) h.length r0.1 with
          | none => rw [hren] at hg; simp at hg
          | some a1 =>
            rw [hren] at hg
            simp only [Option.map_some, Option.some.injEq] at hg
            subst hg
            obtain ⟨k1, k2⟩ := frzs_ok G true hl hr has
            refine ⟨(hC f as [] r0 hrun).1, ((hC f as [] r0 hrun).2 w (imF true im ι h) (fun _ => none) vs (HRep.nil (G.imF_lt true)) k1 k2).mono ?_⟩
            rintro e' w' ⟨v, rfl, im1, ι1, G1, hra, s⟩
            refine ⟨v, rfl, ?_⟩
            have hblk : ∀ b, b < w.heap.size → w'.heap[b]? = w.heap[b]? := fun b hb => s.blk b hb Wr.nil
            obtain ⟨G2, s2⟩ := G.kept s.os s.tape s.output s.size hblk (fun b => w.heap.size ≤ b ∧ im1 b) (fun b hb => ⟨hb.1, G1.imLt b hb.2⟩)
            have him : ∀ b, im1 b → im b ∨ (w.heap.size ≤ b ∧ im1 b) := fun b hb => by
              rcases s.imN b hb with h1 | h1 | h1
              · rcases h1 with h1 | ⟨h1, _⟩
                · exact .inl h1
                · cases h1
              · exact (Wr.nil h1).elim
              · exact .inr ⟨h1, hb⟩
            generalize hids : ownIds r0.1 = ids at *
            have hol := mapM_length hos
            let ι2 : Nat → Option Nat := fun i => if i < h.length then ι i else (ids[i - h.length]?).bind ι1
            have hι : ∀ (i k : Nat), ids[i]? = some k → ι2 (h.length + i) = ι1 k := fun i k hk => by
              simp only [ι2]; rw [if_neg (by omega), Nat.add_sub_cancel_left, hk]; rfl
            have hold : ∀ i, i < h.length → ι2 i = ι i := fun i hi => by simp only [ι2]; rw [if_pos hi]
            have h2g : ∀ i, i < os.length → (h ++ os)[h.length + i]? = os[i]? := fun i hi => by
              rw [List.getElem?_append_right (by omega), Nat.add_sub_cancel_left]
            have hidk : ∀ (i : Nat) o, os[i]? = some o → ∃ k, ids[i]? = some k ∧ r0.2[k]? = some o := fun i o hi => by
              obtain ⟨k, h1, h2⟩ := mapM_get' hos i o hi
              exact ⟨k, h1, h2⟩
            have hfz : ∀ (i : Nat) o, os[i]? = some o → o.fz = false ∧ ∀ r ∈ o.rows, ∀ a ∈ r, dA a = true := fun i o hi => by
              have h1 := List.all_eq_true.1 hflat o (List.mem_of_getElem? hi)
              rw [Bool.and_eq_true] at h1
              exact ⟨by simpa using h1.1, fun r hr a ha => List.all_eq_true.1 (List.all_eq_true.1 h1.2 r hr) a ha⟩
            -- a block of a new object is new
            have hnew : ∀ (i : Nat) o b, os[i]? = some o → ι2 (h.length + i) = some b → w.heap.size ≤ b ∧ ¬ im1 b := fun i o b hi hb => by
              obtain ⟨k, h1, h2⟩ := hidk i o hi
              rw [hι i k h1] at hb
              have hf := (hfz i o hi).1
              refine ⟨?_, (G1.fzIm k o b h2 hb).2 hf⟩
              rcases s.wr b ⟨k, o, h2, hf, hb⟩ with h3 | h3
              · exact (Wr.nil h3).elim
              · exact h3
            have hget : ∀ (id : Nat) o, (h ++ os)[id]? = some o → (id < h.length ∧ h[id]? = some o) ∨ ∃ i, id = h.length + i ∧ os[i]? = some o := fun id o ho => by
              rcases Nat.lt_or_ge id h.length with hlt | hge
              · rw [List.getElem?_append_left hlt] at ho; exact .inl ⟨hlt, ho⟩
              · rw [List.getElem?_append_right hge] at ho
                exact .inr ⟨id - h.length, by omega, ho⟩
            have s3 : Stp w im ι h w' (fun b => im b ∨ (w.heap.size ≤ b ∧ im1 b)) ι2 (h ++ os) :=
              { s2 with
                wr := fun b ⟨id, o, ho, hf, hi⟩ => by
                  rcases hget id o ho with ⟨hlt, ho'⟩ | ⟨i, rfl, ho'⟩
                  · rw [hold id hlt] at hi; exact .inl ⟨id, o, ho', hf, hi⟩
                  · exact .inr (hnew i o b ho' hi).1
                len := by simp
                objs := fun id o o' h1 h2 => by
                  have hlt := (List.getElem?_eq_some_iff.1 h1).1
                  rw [List.getElem?_append_left hlt, h1] at h2; cases h2
                  exact ⟨rfl, Nat.le_refl _, fun _ => hold id hlt⟩ }
            have G3 : HRep w' (fun b => im b ∨ (w.heap.size ≤ b ∧ im1 b)) ι2 (h ++ os) := by
              refine G.step s3 (fun id o ho => ?_) (fun i j b hi hj h1 h2 => ?_) G2.imLt (fun id o b ho hi => ?_)
              · rcases hget id o ho with ⟨hlt, ho'⟩ | ⟨i, rfl, ho'⟩
                · exact .inl ⟨ho', hold id hlt, fun b hb => hblk b (G.old hlt hb)⟩
                · right
                  obtain ⟨k, h1, h2⟩ := hidk i o ho'
                  rcases G1.obj k o h2 with ⟨h0, hr0⟩ | ⟨b, c, e, g1, g2, g3, g4, g5⟩
                  · exact .inl ⟨(hι i k h1).trans h0, hr0⟩
                  · refine .inr ⟨b, c, e, (hι i k h1).trans g1, g2, g3, g4, fun i' j r a k1 k2 => ?_⟩
                    obtain ⟨v, k3, k4, k5⟩ := g5 i' j r a k1 k2
                    exact ⟨v, k3, k4, dA_rep k5 ((hfz i o ho').2 r (List.mem_of_getElem? k1) a (List.mem_of_getElem? k2)) (fun _ _ => rfl) him⟩
              · rw [List.length_append] at hi hj
                have os_at : ∀ i, i < os.length → os[i]? = some (os.getD i default) := fun i hi => by simp [List.getD_eq_getElem?_getD, List.getElem?_eq_getElem hi]
                rcases Nat.lt_or_ge i h.length with hi' | hi' <;> rcases Nat.lt_or_ge j h.length with hj' | hj'
                · rw [hold i hi'] at h1; rw [hold j hj'] at h2; exact G.inj i j b hi' hj' h1 h2
                · rw [hold i hi'] at h1
                  have e : j = h.length + (j - h.length) := by omega
                  rw [e] at h2
                  have := (hnew _ _ b (os_at (j - h.length) (by omega)) h2).1
                  have := G.old hi' h1
                  omega
                · rw [hold j hj'] at h2
                  have e : i = h.length + (i - h.length) := by omega
                  rw [e] at h1
                  have := (hnew _ _ b (os_at (i - h.length) (by omega)) h1).1
                  have := G.old hj' h2
                  omega
                · have ei : i = h.length + (i - h.length) := by omega
                  have ej : j = h.length + (j - h.length) := by omega
                  rw [ei] at h1
                  rw [ej] at h2
                  obtain ⟨k, a1, a2⟩ := hidk _ _ (os_at (i - h.length) (by omega))
                  obtain ⟨l, b1, b2⟩ := hidk _ _ (os_at (j - h.length) (by omega))
                  rw [hι _ k a1] at h1
                  rw [hι _ l b1] at h2
                  have hkl := G1.inj k l b (List.getElem?_eq_some_iff.1 a2).1 (List.getElem?_eq_some_iff.1 b2).1 h1 h2
                  subst hkl
                  have := (List.getElem?_inj (i := i - h.length) (j := j - h.length) (by rw [← hol]; omega) hnd).1 (a1.trans b1.symm)
                  omega
              · rcases hget id o ho with ⟨hlt, ho'⟩ | ⟨i, rfl, ho'⟩
                · rw [hold id hlt] at hi
                  exact G2.fzIm id o b ho' hi
                · obtain ⟨n1, n2⟩ := hnew i o b ho' hi
                  refine ⟨fun hf => absurd hf (by rw [(hfz i o ho').1]; simp), fun _ hh => ?_⟩
                  rcases hh with hh | hh
                  · have := G.imLt b hh; omega
                  · exact n2 hh.2
            refine ⟨_, ι2, G3, ?_, s3⟩
            -- the result
            cases ha : r0.1 with
            | agg cs =>
              rw [ha] at hren hra
              simp only [renA] at hren
              cases hm : cs.mapM (renA1 ids h.length) with
              | none => rw [hm] at hren; simp at hren
              | some cs' =>
                rw [hm] at hren
                simp only [Option.map_some, Option.some.injEq] at hren
                subst hren
                cases hra with
                | d hd => cases hd
                | agg hl h1c hra =>
                  refine .agg (by rw [hl, mapM_length hm]) h1c fun i v a hv ha => ?_
                  obtain ⟨x, g1, g2⟩ := mapM_get' hm i a ha
                  exact renA1_ok hos h2g hι him (hra i v x hv g1) g2
            | _ =>
              rw [ha] at hren hra
              exact renA1_ok hos h2g hι him hra (by simpa [renA] using hren)
end
end Go.Ab

namespace Go.Ab
open Go
variable [Val]
structure EnvOK (P : Program) (E : Env) : Prop where
  T : TOk P E.T
  eq : ∀ t fs, E.eqT t = true → (E.T t).d = .struct fs → EqOk P t fs.length
  rd : ∀ f, E.way f = .rd → CallOK P (fun f' args h => if f' = f then (E.rd f args h).map fun v => (v, h) else none)
  sym : ∀ op x y a, E.sym op x y = some a → binA op (vA x) (vA y) = some (vA a)
  symC : ∀ k x a, E.symC k x = some a → convA k (vA x) = some (vA a)
  psh : ∀ f, E.way f = .psh → ∀ args h rows, E.psh f args h = some rows → Callable P f ∧ ∀ w im ι (vs : List Value), HRep w im ι h → vs.length = args.length →
    (∀ (i : Nat) v a, vs[i]? = some v → args[i]? = some a → RepA w im ι h v a) → ∀ (b : Nat) (o : Obj), h[b]? = some o → o.sz = E.pshSz f → o.fz = false → o.rows = [] →
    Calls P f vs.toArray w fun e w' => ∃ v, e = .returned v ∧ Fits w im ι h v (.own b 0 rows.length) w' (h.set b ⟨E.pshSz f, false, rows⟩)
  pshLoc : ∀ f, E.way f = .psh → ∀ args h rows, E.psh f args h = some rows → ∀ h2 : H, (∀ j, (∃ a ∈ args, idA a = some j) → h2[j]? = h[j]?) → E.psh f args h2 = some rows
  rdLoc : ∀ f, E.way f = .rd → ∀ args h v, E.rd f args h = some v → ∀ h2 : H, (∀ j, (∃ a ∈ v :: args, idA a = some j) → h2[j]? = h[j]?) → E.rd f args h2 = some v
structure Conc (nt : Nat) (a : Act) (w : World) (im : Nat → Prop) (ι : Nat → Option Nat) (s : S) (h : H) : Prop where
  size : a.tmps.size = nt
  defers : a.defers = []
  rep : ∀ t, RepA w im ι h (a.tmps.getD t undef) (s t)
  heap : HRep w im ι h
section
variable {P : Program} {E : Env} {C : CO} {w : World} {im : Nat → Prop} {ι : Nat → Option Nat} {s : S} {h : H} {a : Act} {nt : Nat}

theorem constA_ok (v : Value) : RepA w im ι h v (constA v) := by
  unfold constA
  split
  · exact .d (.int _ _)
  · exact .d (.bool _)
  · exact .nils _
  · exact .d .nilI
  · exact .dead _
theorem Conc.ev (c : Conc nt a w im ι s h) (x : Operand) : RepA w im ι h (a.eval x) (evA s x) := by
  cases x with
  | tmp t => exact c.rep t
  | const v => exact constA_ok v
  | global g => exact .dead _
  | func f => exact .fn rfl (fun i v a hi => by simp at hi)
theorem Conc.put (c : Conc nt a w im ι s h) {w' : World} {im' : Nat → Prop} {ι' : Nat → Option Nat} {h' : H} {d : Option Nat} (hd : ∀ x, d = some x → x < nt) {v : Value} {v' : A}
    (G : HRep w' im' ι' h') (hr : RepA w' im' ι' h' v v') (st : Stp w im ι h w' im' ι' h') : Conc nt (a.put d v) w' im' ι' (put s d v') h' where
  size := by cases d <;> simp [Act.put, c.size]
  defers := by cases d <;> simp [Act.put, c.defers]
  rep := fun t => by
    cases d with
    | none => exact (c.rep t).mono c.heap st
    | some x =>
      have hx := hd x rfl
      simp only [Act.put, Go.Ab.put]
      by_cases ht : t = x
      · subst ht
        have : (a.tmps.setIfInBounds t v).getD t undef = v := by
          rw [Array.getD_eq_getD_getElem?]; simp [c.size, hx]
        rw [this]
        simpa using hr
      · have : (a.tmps.setIfInBounds x v).getD t undef = a.tmps.getD t undef := by
          rw [Array.getD_eq_getD_getElem?, Array.getElem?_setIfInBounds_ne (fun e => ht e.symm), Array.getD_eq_getD_getElem?]
        rw [this]
        have hb : Nat.beq t x = false := by
          rw [← Bool.not_eq_true]; intro hh; exact ht (Nat.eq_of_beq_eq_true hh)
        rw [hb]
        exact (c.rep t).mono c.heap st
  heap := G
theorem Conc.move (c : Conc nt a w im ι s h) {w' : World} {im' : Nat → Prop} {ι' : Nat → Option Nat} {h' : H} (G : HRep w' im' ι' h') (st : Stp w im ι h w' im' ι' h') : Conc nt a w' im' ι' s h' :=
  ⟨c.size, c.defers, fun t => (c.rep t).mono c.heap st, G⟩

/-- What an operation comes to. -/
def opV (E : Env) (C : CO) (o : Oper) (s : S) (h : H) : Option (A × H) := opK E C o.op (evA s) h fun v h => some (v, h)

theorem wp_val {o : Oper} {next : Act → World → Prop} {Q : Exit → Act → World → Prop} {v : Value} {w' : World} (hr : (execOp a.eval o).run P w = .ok (.value v) w') (hn : next (a.put o.dst v) w') : o.wp P a w next Q := by
  unfold Oper.wp; rw [hr]; exact hn
theorem wp_skip' {o : Oper} {next : Act → World → Prop} {Q : Exit → Act → World → Prop} {w' : World} (hr : (execOp a.eval o).run P w = .ok .skip w') (hn : next (a.put o.dst undef) w') : o.wp P a w next Q := by
  unfold Oper.wp; rw [hr]; exact hn
theorem wp_call {o : Oper} {next : Act → World → Prop} {Q : Exit → Act → World → Prop} {f : FuncId} {args : Array Value} (hr : (execOp a.eval o).run P w = .ok (.enter f args) w)
    (hc : Calls P f args w fun e w' => ∃ v, e = .returned v ∧ next (a.put o.dst v) w') : o.wp P a w next Q := by
  unfold Oper.wp; rw [hr]
  exact hc.mono fun e w' ⟨v, he, hn⟩ => by subst he; exact hn
theorem run_callFunc {f : FuncId} (hf : Callable P f) (args : Array Value) : (callFunc f args).run P w = .ok (.enter f args) w := by
  obtain ⟨fn, h1, h2, h3⟩ := hf
  have h2' : ¬ fn.name = "runtime.NumGoroutine" := by simpa using h2
  have h3' : ¬ fn.body = none := by intro hn; rw [hn] at h3; simp at h3
  simp [callFunc, program, Sem.run, h1, h2', h3']

section
variable {next : Act → World → Prop} {Q : Exit → Act → World → Prop}
/-- A value read off the leaf's law. -/
theorem leaf (c : Conc nt a w im ι s h) {o : Oper} {x : Sem Value} {v' a' : A} {h' : H} (hx : execOp a.eval o = (do pure (.value (← x)))) (hl : ∃ v, x.run P w = .ok v w ∧ RepA w im ι h v v')
    (e : some (v', h) = some (a', h')) (hn : ∀ v w', Fits w im ι h v a' w' h' → next (a.put o.dst v) w') : o.wp P a w next Q := by
  simp only [Option.some.injEq, Prod.mk.injEq] at e
  obtain ⟨rfl, rfl⟩ := e
  obtain ⟨v, hv, hr⟩ := hl
  exact wp_val (v := v) (by rw [hx]; simp [hv]) (hn v w (Fits.same c.heap hr))
/-- A value and a new world. -/
theorem leafW (c : Conc nt a w im ι s h) {o : Oper} {x : Sem Value} {a' : A} {h' : H} (hx : execOp a.eval o = (do pure (.value (← x)))) (hl : ∃ v w', x.run P w = .ok v w' ∧ Fits w im ι h v a' w' h')
    (hn : ∀ v w', Fits w im ι h v a' w' h' → next (a.put o.dst v) w') : o.wp P a w next Q := by
  obtain ⟨v, w', hv, hr⟩ := hl
  exact wp_val (v := v) (w' := w') (by rw [hx]; simp [hv]) (hn v w' hr)
end

theorem puts1 {x : Sem Value} {mkv : Nat → A} {sz : Nat} {rows : List (List A)} (hp : ∃ v w', x.run P w = .ok v w' ∧ Puts w im ι h v mkv w' sz rows) :
    ∃ v w', x.run P w = .ok v w' ∧ Fits w im ι h v (mkv h.length) w' (h ++ [⟨sz, false, rows⟩]) := let ⟨v, w', h1, h2⟩ := hp; ⟨v, w', h1, h2.1⟩
theorem TOk.at_ (hT : TOk P E.T) {t : Nat} {d : TD} (hd : (E.T t).d = d) (hne : d ≠ .other) : TOkAt P t (E.T t) := hT t (by rw [hd]; exact hne)
theorem bif_none {β : Type} {b : Bool} {x : Option β} {r : β} (e : (bif b then none else x) = some r) : b = false ∧ x = some r := by cases b <;> simp_all
theorem bif_some {β : Type} {b : Bool} {x : Option β} {r : β} (e : (bif b then x else none) = some r) : b = true ∧ x = some r := by cases b <;> simp_all
theorem isO_ne {d : TD} (h : d.isO = false) : d ≠ .other := by intro e; subst e; simp [TD.isO] at h
theorem bind_some' {α β : Type} {x : Option α} {f : α → Option β} {r : β} (e : x.bind f = some r) : ∃ a, x = some a ∧ f a = some r := Option.bind_eq_some_iff.1 e

theorem run_eq_nn {t : TypeId} {ms : _} (hu : P.underlying t = some (.interface ms)) (d : Nat) : (Op.equalIn (d + 1) t .nilIface .nilIface).run P w = .ok true w := by simp [Op.equalIn, run_underlying hu]
theorem run_eq_ni {t : TypeId} {ms : _} (hu : P.underlying t = some (.interface ms)) (d : Nat) (e : TypeId) (z : Value) : (Op.equalIn (d + 1) t .nilIface (.iface e z)).run P w = .ok false w := by simp [Op.equalIn, run_underlying hu]
theorem run_eq_in {t : TypeId} {ms : _} (hu : P.underlying t = some (.interface ms)) (d : Nat) (e : TypeId) (z : Value) : (Op.equalIn (d + 1) t (.iface e z) .nilIface).run P w = .ok false w := by simp [Op.equalIn, run_underlying hu]
theorem ifcA_ok {op : BinOp} {v u : Value} {x' y' a' : A} {t : TypeId} {ms : _} (hu : P.underlying t = some (.interface ms)) (x y : Operand) (hr : RepA w im ι h v x') (hs : RepA w im ι h u y') (e : ifcA op (isC x || isC y) x' y' = some a') :
    ∃ v', ((do eqGuard op t x y v u; binOp op t v u) : Sem Value).run P w = .ok v' w ∧ RepA w im ι h v' a' := by
  have eqB_ok : ∀ (b : Bool), eqB op b = some a' → (eqGuard op t x y v u).run P w = .ok () w → (Op.equal t v u).run P w = .ok b w → (∀ k n, v ≠ .int k n) → (v = .nilIface ∨ ∃ t u, v = .iface t u) →
      ∃ v', ((do eqGuard op t x y v u; binOp op t v u) : Sem Value).run P w = .ok v' w ∧ RepA w im ι h v' a' := fun b h1 h2 h3 _ h5 => by
    unfold eqB at h1
    split at h1
    · simp only [Option.some.injEq] at h1; subst h1
      refine ⟨.bool b, ?_, .d (.bool _)⟩
      simp only [Sem.run_bind, h2, Result.andThen_ok]
      rcases h5 with rfl | ⟨_, _, rfl⟩ <;> simp [binOp, h3]
    · simp only [Option.some.injEq] at h1; subst h1
      refine ⟨.bool (!b), ?_, .d (.bool _)⟩
      simp only [Sem.run_bind, h2, Result.andThen_ok]
      rcases h5 with rfl | ⟨_, _, rfl⟩ <;> simp [binOp, h3]
    · cases h1
  unfold ifcA at e
  split at e
  · obtain rfl := hr.nilI
    obtain rfl := hs.nilI
    obtain ⟨hc, e⟩ := bif_some e
    refine eqB_ok true e ?_ (run_eq_nn hu 9999) (fun _ _ h => by cases h) (.inl rfl)
    simp only [Bool.or_eq_true] at hc
    rcases hc with hc | hc
    · cases x with
      | const cx => rw [eqGuard_nil_constL]; rfl
      | _ => cases hc
    · cases y with
      | const cy => rw [eqGuard_nil_constR]; rfl
      | _ => cases hc
  · obtain rfl := hr.nilI
    obtain ⟨d, z, rfl⟩ := hs.ifc
    exact eqB_ok false e (by rw [eqGuard_nil_iface]; rfl) (run_eq_ni hu 9999 d z) (fun _ _ h => by cases h) (.inl rfl)
  · obtain rfl := hs.nilI
    obtain ⟨d, z, rfl⟩ := hr.ifc
    exact eqB_ok false e (by rw [eqGuard_at_iface]; rfl) (run_eq_in hu 9999 d z) (fun _ _ h => by cases h) (.inr ⟨_, _, rfl⟩)
  · cases e
theorem RepA.idA_lt {v : Value} {a : A} {j : Nat} (hr : RepA w im ι h v a) (hj : idA a = some j) : j < h.length := by
  cases hr with
  | d hd => cases hd <;> cases hj
  | own ho => cases hj; exact (List.getElem?_eq_some_iff.1 ho).1
  | ptr ho => cases hj; exact (List.getElem?_eq_some_iff.1 ho).1
  | _ => cases hj
theorem calls_ok (hC : CallOK P C) {f : FuncId} {args : List A} {h' : H} {a' : A} {vs : List Value} (G : HRep w im ι h) (hl : vs.length = args.length)
    (hr : ∀ (i : Nat) v a, vs[i]? = some v → args[i]? = some a → RepA w im ι h v a) (wy : Way)
    (e : (match wy with
      | .pure sl => (callP C sl f args h).bind fun v => some (v, h)
      | .keep => (callK C f args h).bind fun r => some (r.1, r.2)
      | .st => (callS C f args h).bind fun r => some (r.1, r.2)
      | .rd => none
      | .psh => none) = some (a', h')) :
    Callable P f ∧ Calls P f vs.toArray w fun e w' => ∃ v, e = .returned v ∧ Fits w im ι h v a' w' h' := by
  cases wy with
  | pure sl =>
    obtain ⟨v, h1, h2⟩ := bind_some' e
    simp only [Option.some.injEq, Prod.mk.injEq] at h2
    obtain ⟨rfl, rfl⟩ := h2
    exact callP_ok hC G hl hr h1
  | keep =>
    obtain ⟨v, h1, h2⟩ := bind_some' e
    simp only [Option.some.injEq, Prod.mk.injEq] at h2
    obtain ⟨rfl, rfl⟩ := h2
    exact callK_ok hC G hl hr h1
  | st =>
    obtain ⟨v, h1, h2⟩ := bind_some' e
    simp only [Option.some.injEq, Prod.mk.injEq] at h2
    obtain ⟨rfl, rfl⟩ := h2
    exact callS_ok hC G hl hr h1
  | rd => cases e
  | psh => cases e

theorem RepA.isPtr {v : Value} {id ver row off : Nat} (hr : RepA w im ι h v (.ptr id ver row off)) : ∃ ad, v = .pointer (some ad) := by
  cases hr with
  | d hd => cases hd
  | ptr => exact ⟨_, rfl⟩
theorem RepA.isIpt {v : Value} {cs : List A} (hr : RepA w im ι h v (.ipt cs)) : ∃ ad, v = .pointer (some ad) := by
  cases hr with
  | d hd => cases hd
  | ipt => exact ⟨_, rfl⟩
theorem args_rep (c : Conc nt a w im ι s h) (l : List Operand) : (l.map a.eval).length = (l.map (evA s)).length ∧ ∀ (i : Nat) v x, (l.map a.eval)[i]? = some v → (l.map (evA s))[i]? = some x → RepA w im ι h v x := by
  refine ⟨by simp, fun i v x h1 h2 => ?_⟩
  rw [List.getElem?_map] at h1 h2
  cases ho : l[i]? with
  | none => rw [ho] at h1; cases h1
  | some o =>
    rw [ho] at h1 h2
    simp only [Option.map_some, Option.some.injEq] at h1 h2
    subst h1 h2
    exact c.ev o

set_option maxHeartbeats 1000000 in
theorem op_ok (hE : EnvOK P E) (hC : CallOK P C) (c : Conc nt a w im ι s h) {o : Oper} {a' : A} {h' : H} (e : opV E C o s h = some (a', h')) {next : Act → World → Prop} {Q : Exit → Act → World → Prop}
    (hn : ∀ v w', Fits w im ι h v a' w' h' → next (a.put o.dst v) w') : o.wp P a w next Q := by
  obtain ⟨dst, op, ty, pos, after, guard⟩ := o
  simp only [opV] at e
  cases op with
  | move x =>
    simp only [opK, Option.some.injEq, Prod.mk.injEq] at e
    obtain ⟨rfl, rfl⟩ := e
    exact wp_val (v := a.eval x) (w' := w) (by simp [execOp]) (hn _ w (Fits.same c.heap (c.ev x)))
  | assign x =>
    simp only [opK, Option.some.injEq, Prod.mk.injEq] at e
    obtain ⟨rfl, rfl⟩ := e
    exact wp_val (v := a.eval x) (w' := w) (by simp [execOp]) (hn _ w (Fits.same c.heap (c.ev x)))
  | pick x y z =>
    simp only [opK] at e
    obtain ⟨v', h1, h2⟩ := bind_some' e
    simp only [Option.some.injEq, Prod.mk.injEq] at h2
    obtain ⟨rfl, rfl⟩ := h2
    have hx := c.ev x
    cases hb : evA s x with
    | bool b =>
      rw [hb] at h1 hx
      simp only [pickA, Option.some.injEq] at h1
      have hv := hx.bool
      cases b with
      | true =>
        simp only [cond_true] at h1
        subst h1
        exact wp_val (v := a.eval y) (w' := w) (by simp [execOp, hv, asBool]) (hn _ w (Fits.same c.heap (c.ev y)))
      | false =>
        simp only [cond_false] at h1
        subst h1
        exact wp_val (v := a.eval z) (w' := w) (by simp [execOp, hv, asBool]) (hn _ w (Fits.same c.heap (c.ev z)))
    | _ => rw [hb] at h1; simp [pickA] at h1
  | alloc t =>
    simp only [opK] at e
    obtain ⟨h1, h2⟩ := bif_none e
    simp only [alK, Option.some.injEq, Prod.mk.injEq] at h2
    obtain ⟨rfl, rfl⟩ := h2
    exact leafW c rfl (puts1 (alloc_ok (hE.T t (isO_ne h1)) c.heap)) hn
  | box t x =>
    simp only [opK] at e
    obtain ⟨cs, h1, h2⟩ := bind_some' e
    simp only [alK, Option.some.injEq, Prod.mk.injEq] at h2
    obtain ⟨rfl, rfl⟩ := h2
    exact leafW c rfl (puts1 (box_ok c.heap (c.ev x) h1)) hn
  | load t x =>
    simp only [opK] at e
    obtain ⟨h1, h2⟩ := bif_none e
    obtain ⟨v', h3, h4⟩ := bind_some' h2
    exact leaf c rfl (ldA_ok (hE.T t (isO_ne h1)) (isO_ne h1) c.heap (c.ev x) h3) h4 hn
  | store t x y =>
    simp only [opK] at e
    obtain ⟨h1, h2⟩ := bif_none e
    obtain ⟨v', h3, h4⟩ := bind_some' h2
    simp only [Option.some.injEq, Prod.mk.injEq] at h4
    obtain ⟨rfl, rfl⟩ := h4
    obtain ⟨w', hrun, hf⟩ := stA_ok (hE.T t (isO_ne h1)) c.heap (c.ev x) (c.ev y) h3
    exact wp_skip' (w' := w') (by simp [execOp, hrun]) (hn _ w' hf)
  | nilCheck x =>
    simp only [opK] at e
    have hx := c.ev x
    have key : ∀ ad, a.eval x = .pointer (some ad) → some (evA s x, h) = some (a', h') → Oper.wp P ⟨dst, .nilCheck x, ty, pos, after, guard⟩ a w next Q := fun ad had e => by
      simp only [Option.some.injEq, Prod.mk.injEq] at e
      obtain ⟨rfl, rfl⟩ := e
      exact wp_val (v := a.eval x) (w' := w) (by simp [execOp, had]) (hn _ w (Fits.same c.heap (c.ev x)))
    cases hb : evA s x with
    | ptr id ver row off =>
      rw [hb] at e hx
      obtain ⟨ad, had⟩ := hx.isPtr
      exact key ad had (by rw [hb]; exact e)
    | ipt cs =>
      rw [hb] at e hx
      obtain ⟨ad, had⟩ := hx.isIpt
      exact key ad had (by rw [hb]; exact e)
    | _ => rw [hb] at e; simp [nck] at e
  | build t parts =>
    simp only [opK] at e
    have hparts : ∀ (l : List (Nat × Operand)), (l.map fun p => (p.1, a.eval p.2)).length = (l.map fun p => (p.1, evA s p.2)).length ∧ ∀ (i : Nat) p q, (l.map fun p => (p.1, a.eval p.2))[i]? = some p → (l.map fun p => (p.1, evA s p.2))[i]? = some q → p.1 = q.1 ∧ RepA w im ι h p.2 q.2 := fun l => by
      refine ⟨by simp, fun i p q h1 h2 => ?_⟩
      rw [List.getElem?_map] at h1 h2
      cases hl : l[i]? with
      | none => rw [hl] at h1; cases h1
      | some o =>
        rw [hl] at h1 h2
        simp only [Option.map_some, Option.some.injEq] at h1 h2
        subst h1 h2
        exact ⟨rfl, c.ev _⟩
    obtain ⟨p1, p2⟩ := hparts parts.toList
    have hexec : execOp a.eval ⟨dst, .build t parts, ty, pos, after, guard⟩ = (do pure (.value (← Instr.build t (parts.toList.map fun p => (p.1, a.eval p.2)).toArray))) := by
      simp only [execOp]
      congr 2
      rw [← List.map_toArray]
    cases hd : (E.T t).d with
    | struct fs =>
      rw [hd] at e
      simp only at e
      obtain ⟨hfs, e⟩ := bif_none e
      have hfs : (parts.toList.all fun p => Nat.blt p.1 fs.length) = true := by rw [← Bool.not_eq_false']; exact hfs
      obtain ⟨cs, h3, h4⟩ := bind_some' e
      refine leaf c hexec (build_struct_ok (hE.T.at_ hd (by simp)) hd p1 (fun i p q g1 g2 => ?_) ?_) h4 hn
      · obtain ⟨q1, q2⟩ := p2 i p q g1 g2
        refine ⟨q1, ?_, q2⟩
        rw [List.getElem?_map] at g2
        cases hl : parts.toList[i]? with
        | none => rw [hl] at g2; cases g2
        | some o =>
          rw [hl] at g2
          simp only [Option.map_some, Option.some.injEq] at g2
          subst g2
          have := List.all_eq_true.1 hfs o (List.mem_of_getElem? hl)
          simpa using this
      · rw [List.map_map]; exact h3
    | arr n et =>
      rw [hd] at e
      simp only at e
      obtain ⟨he, e⟩ := bif_none e
      obtain ⟨cs, h3, h4⟩ := bind_some' e
      refine leaf c hexec (build_arr_ok (hE.T.at_ hd (by simp)) hd (hE.T et (isO_ne he)) p1 p2 ?_) h4 hn
      rw [List.map_map]; exact h3
    | _ => rw [hd] at e; cases e
  | buildSlice t len parts =>
    simp only [opK] at e
    cases hd : (E.T t).d with
    | slice et =>
      rw [hd] at e
      simp only at e
      obtain ⟨he, e⟩ := bif_none e
      obtain ⟨hix, e⟩ := bif_some e
      simp only [bsK] at e
      obtain ⟨rows, h3, h4⟩ := bind_some' e
      split at h4
      case isFalse => cases h4
      rename_i hh
      obtain ⟨hz, hpos, hsm⟩ := hh
      simp only [Option.some.injEq, Prod.mk.injEq] at h4
      obtain ⟨rfl, rfl⟩ := h4
      have hix' : parts.toList.map (·.1) = List.range len := by simpa using hix
      have hlen : parts.toList.length = len := by have := congrArg List.length hix'; simpa using this
      rw [List.length_map, hlen] at hsm hn
      refine leafW c (x := Instr.buildSlice t len (parts.toList.map fun p => (p.1, a.eval p.2)).toArray) (by
        simp only [execOp]
        congr 2
        rw [← List.map_toArray]) (puts1 (bs_ok (hE.T.at_ hd (by simp)) hd (hE.T et (isO_ne he)) c.heap (by simp [hlen]) (by simp [hlen]) (fun i p hp => ?_) (fun i p q g1 g2 => ?_) h3 hz hpos hsm)) hn
      · rw [List.getElem?_map] at hp
        cases hl : parts.toList[i]? with
        | none => rw [hl] at hp; cases hp
        | some o =>
          rw [hl] at hp
          simp only [Option.map_some, Option.some.injEq] at hp
          subst hp
          have h5 : (parts.toList.map (·.1))[i]? = some o.1 := by rw [List.getElem?_map, hl]; rfl
          rw [hix'] at h5
          have hil : i < len := by rw [← hlen]; exact (List.getElem?_eq_some_iff.1 hl).1
          rw [List.getElem?_range hil] at h5
          exact (Option.some.inj h5).symm
      · rw [List.getElem?_map] at g1 g2
        cases hl : parts.toList[i]? with
        | none => rw [hl] at g1; cases g1
        | some o =>
          rw [hl] at g1 g2
          simp only [Option.map_some, Option.some.injEq] at g1 g2
          subst g1 g2
          exact c.ev _
    | _ => rw [hd] at e; cases e
  | binOp op t x y yt =>
    simp only [opK] at e
    cases hd : (E.T t).d with
    | int k =>
      rw [hd] at e
      obtain ⟨v', h3, h4⟩ := bind_some' e
      exact leaf c rfl (binE_ok hE.sym t x y (c.ev x) (c.ev y) h3) h4 hn
    | bool =>
      rw [hd] at e
      obtain ⟨v', h3, h4⟩ := bind_some' e
      have ht := (hE.T.at_ hd (by simp)).d
      rw [hd] at ht
      exact leaf c rfl (beqA_ok ht x y (c.ev x) (c.ev y) h3) h4 hn
    | struct fs =>
      rw [hd] at e
      simp only at e
      obtain ⟨he, e⟩ := bif_some e
      obtain ⟨v', h3, h4⟩ := bind_some' e
      exact leaf c rfl (seqA_ok (hE.eq t fs he hd) x y (c.ev x) (c.ev y) h3) h4 hn
    | iface =>
      rw [hd] at e
      simp only at e
      obtain ⟨v', h3, h4⟩ := bind_some' e
      have ht := (hE.T.at_ hd (by simp)).d
      rw [hd] at ht
      obtain ⟨ms, hu⟩ := ht
      exact leaf c rfl (ifcA_ok hu x y (c.ev x) (c.ev y) h3) h4 hn
    | _ => rw [hd] at e; cases e
  | makeInterface t x =>
    simp only [opK] at e
    have hrun : (E.T t).d ≠ .other → (E.T t).d ≠ .iface → (Instr.makeInterface t (a.eval x)).run P w = .ok (.iface t (a.eval x)) w := fun h1 h2 => by
      have ht := (hE.T.at_ (d := (E.T t).d) rfl h1).d
      unfold Instr.makeInterface
      cases hd : (E.T t).d with
      | other => exact absurd hd h1
      | iface => exact absurd hd h2
      | one =>
        rw [hd] at ht
        obtain ⟨d, hu, hf⟩ := ht
        simp only [Sem.run_bind, run_underlying hu, Result.andThen_ok]
        cases d <;> first | rfl | cases hf
      | struct fs =>
        rw [hd] at ht
        obtain ⟨f, hu, _⟩ := ht
        simp only [Sem.run_bind, run_underlying hu, Result.andThen_ok, Sem.run_pure]
      | int k => rw [hd] at ht; simp only [Sem.run_bind, run_underlying (show P.underlying t = _ from ht), Result.andThen_ok, Sem.run_pure]
      | bool => rw [hd] at ht; simp only [Sem.run_bind, run_underlying (show P.underlying t = _ from ht), Result.andThen_ok, Sem.run_pure]
      | slice et => rw [hd] at ht; simp only [Sem.run_bind, run_underlying (show P.underlying t = _ from ht), Result.andThen_ok, Sem.run_pure]
      | arr n et => rw [hd] at ht; simp only [Sem.run_bind, run_underlying (show P.underlying t = _ from ht), Result.andThen_ok, Sem.run_pure]
    split at e
    · cases e
    · cases e
    · exact leaf c (x := Instr.makeInterface t (a.eval x)) rfl ⟨_, hrun ‹_› ‹_›, .d (.ifc _ _)⟩ e hn
  | unOp op t x =>
    simp only [opK] at e
    obtain ⟨v', h3, h4⟩ := bind_some' e
    exact leaf c rfl (unA_ok (c.ev x) h3) h4 hn
  | convert sr ds x =>
    simp only [opK] at e
    cases hs : (E.T sr).d with
    | int ks =>
      rw [hs] at e
      cases hd : (E.T ds).d with
      | int k =>
        rw [hd] at e
        obtain ⟨v', h3, h4⟩ := bind_some' e
        have h5 := (hE.T.at_ hs (by simp)).d
        have h6 := (hE.T.at_ hd (by simp)).d
        rw [hs] at h5
        rw [hd] at h6
        exact leaf c rfl (convE_ok hE.symC h5 h6 (c.ev x) h3) h4 hn
      | _ => rw [hd] at e; cases e
    | _ => rw [hs] at e; cases e
  | makeFunc fn first caps =>
    cases fn with
    | func f =>
      simp only [opK] at e
      obtain ⟨h1, e⟩ := bif_some e
      simp only [Option.some.injEq, Prod.mk.injEq] at e
      obtain ⟨rfl, rfl⟩ := e
      have hf : first = #[] := by simpa using h1
      subst hf
      refine wp_val (v := .func (.func f) #[] (caps.map a.eval)) (w' := w) (by simp [execOp, Instr.makeFunc]) (hn _ w (Fits.same c.heap ?_))
      obtain ⟨q1, q2⟩ := args_rep c caps.toList
      exact .fn (by simpa using q1) fun i v x g1 g2 => q2 i v x (by simpa using g1) g2
    | _ => simp [opK] at e
  | makeSlice t l cp =>
    simp only [opK] at e
    cases hd : (E.T t).d with
    | slice et =>
      rw [hd] at e
      simp only at e
      obtain ⟨he, e⟩ := bif_none e
      have hl := c.ev l
      have hcp := c.ev cp
      simp only [mkK] at e
      cases h1 : evA s l with
      | int k n =>
        cases h2 : evA s cp with
        | int k' m =>
          rw [h1, h2] at e
          simp only at e
          rw [h1] at hl
          rw [h2] at hcp
          split at e
          case isFalse => cases e
          rename_i hh
          obtain ⟨rfl, h0, hb, hbn⟩ := hh
          simp only [Option.some.injEq, Prod.mk.injEq] at e
          obtain ⟨rfl, rfl⟩ := e
          exact leafW c rfl (puts1 (mkA_ok (hE.T.at_ hd (by simp)) hd (hE.T et (isO_ne he)) c.heap hl.int hcp.int h0 hb hbn)) hn
        | _ => rw [h1, h2] at e; simp at e
      | _ => rw [h1] at e; simp at e
    | _ => rw [hd] at e; cases e
  | slice t x lo hi mx =>
    cases mx with
    | some _ => simp [opK] at e
    | none =>
      simp only [opK] at e
      cases hd : (E.T t).d with
      | slice et =>
        rw [hd] at e
        simp only at e
        obtain ⟨he, e⟩ := bif_none e
        obtain ⟨v', h3, h4⟩ := bind_some' e
        refine leaf c (x := Instr.sliceAt t (a.eval x) (lo.map a.eval) (hi.map a.eval) none) rfl (sliA_ok (hE.T.at_ hd (by simp)) hd (hE.T et (isO_ne he)) (c.ev x) (fun y hy => ?_) (fun hy => ?_) (fun y hy => ?_) (fun hy => ?_) h3) h4 hn
        · cases lo with
          | none => simp [opA] at hy
          | some l => simp only [opA, Option.some.injEq] at hy; subst hy; exact ⟨_, rfl, c.ev l⟩
        · cases lo with
          | none => rfl
          | some l => simp [opA] at hy
        · cases hi with
          | none => simp [opA] at hy
          | some l => simp only [opA, Option.some.injEq] at hy; subst hy; exact ⟨_, rfl, c.ev l⟩
        · cases hi with
          | none => rfl
          | some l => simp [opA] at hy
      | _ => rw [hd] at e; cases e
  | fieldAddr t x f =>
    simp only [opK] at e
    cases hd : (E.T t).d with
    | struct fs =>
      rw [hd] at e
      simp only at e
      obtain ⟨hf, e⟩ := bif_none e
      obtain ⟨v', h3, h4⟩ := bind_some' e
      have hlt : f < fs.length := by simpa using hf
      have hp : fs[f]? = some (fs.getD f (0, 0)) := by rw [List.getD_eq_getElem?_getD, List.getElem?_eq_getElem hlt]; rfl
      exact leaf c rfl (fadA_ok (hE.T.at_ hd (by simp)) hd hp (c.ev x) h3) h4 hn
    | _ => rw [hd] at e; cases e
  | indexAddr t x i =>
    simp only [opK] at e
    obtain ⟨v', h3, h4⟩ := bind_some' e
    simp only [lowA] at h3
    cases hd : (E.T t).d with
    | slice et =>
      rw [hd] at h3
      simp only at h3
      obtain ⟨he, h3⟩ := bif_none h3
      exact leaf c rfl (iadA_ok (hE.T.at_ hd (by simp)) hd (hE.T et (isO_ne he)) (c.ev x) (c.ev i) h3) h4 hn
    | arr n et =>
      rw [hd] at h3
      simp only at h3
      obtain ⟨he, h3⟩ := bif_none h3
      exact leaf c rfl (aidA_ok (hE.T.at_ hd (by simp)) hd (hE.T et (isO_ne he)) (c.ev x) (c.ev i) h3) h4 hn
    | _ => rw [hd] at h3; cases h3
  | index t x i =>
    simp only [opK] at e
    cases hd : (E.T t).d with
    | arr n et =>
      rw [hd] at e
      simp only at e
      obtain ⟨he, e⟩ := bif_none e
      obtain ⟨v', h3, h4⟩ := bind_some' e
      exact leaf c rfl (idxA_ok (hE.T.at_ hd (by simp)) hd (hE.T et (isO_ne he)) (isO_ne he) (c.ev x) (c.ev i) h3) h4 hn
    | _ => rw [hd] at e; cases e
  | extract x i =>
    simp only [opK] at e
    obtain ⟨v', h3, h4⟩ := bind_some' e
    exact leaf c rfl (extrA_ok (c.ev x) h3) h4 hn
  | call cl =>
    obtain ⟨callee, args, argTypes⟩ := cl
    cases callee with
    | invoke r m => simp [opK] at e
    | value f =>
      obtain ⟨q1, q2⟩ := args_rep c args.toList
      have hfun : ∀ (g : FuncId) (caps : Array Value), a.eval f = .func (.func g) #[] caps → Callable P g →
          (execOp a.eval ⟨dst, .call ⟨.value f, args, argTypes⟩, ty, pos, after, guard⟩).run P w = .ok (.enter g ((args.toList.map a.eval) ++ caps.toList).toArray) w := fun g caps hf hg => by
        have harr : (#[] ++ args.map a.eval) ++ caps = ((args.toList.map a.eval) ++ caps.toList).toArray := by
          apply Array.ext'
          simp
        simp only [execOp, resolve, hf, Deferred.ofValue, invoke, Sem.run_bind, Sem.run_pure, Result.andThen_ok, harr, run_callFunc hg]
      have other : ∀ g caps, evA s f = .fn g caps → (callV C E.way (evA s f) (args.toList.map (evA s)) h).bind (fun r => some (r.1, r.2)) = some (a', h') →
          Oper.wp P ⟨dst, .call ⟨.value f, args, argTypes⟩, ty, pos, after, guard⟩ a w next Q := fun g caps hg e => by
        have hf := c.ev f
        rw [hg] at hf e
        generalize hv : a.eval f = vf at hf
        cases hf with
        | d hd => cases hd
        | @fn _ cs _ hl hra =>
          obtain ⟨r, h1, h2⟩ := bind_some' e
          simp only [Option.some.injEq, Prod.mk.injEq] at h2
          obtain ⟨rfl, rfl⟩ := h2
          simp only [callV] at h1
          have hlen : (args.toList.map a.eval ++ cs.toList).length = (args.toList.map (evA s) ++ caps).length := by simp [hl]
          have hrep : ∀ (i : Nat) v x, (args.toList.map a.eval ++ cs.toList)[i]? = some v → (args.toList.map (evA s) ++ caps)[i]? = some x → RepA w im ι h v x := fun i v x g1 g2 => by
            rcases Nat.lt_or_ge i (args.toList.map a.eval).length with hlt | hge
            · rw [List.getElem?_append_left hlt] at g1
              rw [List.getElem?_append_left (by rw [← q1]; exact hlt)] at g2
              exact q2 i v x g1 g2
            · rw [List.getElem?_append_right hge] at g1
              rw [List.getElem?_append_right (by rw [← q1]; exact hge), ← q1] at g2
              exact hra _ v x (by simpa using g1) g2
          have hcall := calls_ok hC (f := g) (args := args.toList.map (evA s) ++ caps) (h' := r.2) (a' := r.1) c.heap hlen hrep (E.way g) (by
            cases hw : E.way g with
            | pure sl =>
              rw [hw] at h1
              simp only at h1 ⊢
              cases hp : callP C sl g (args.toList.map (evA s) ++ caps) h with
              | none => rw [hp] at h1; simp at h1
              | some v => rw [hp] at h1; simp only [Option.map_some, Option.some.injEq] at h1; subst h1; rfl
            | keep => rw [hw] at h1; simp only at h1 ⊢; rw [h1]; rfl
            | st => rw [hw] at h1; simp only at h1 ⊢; rw [h1]; rfl
            | rd => rw [hw] at h1; cases h1
            | psh => rw [hw] at h1; cases h1)
          exact wp_call (hfun g cs hv hcall.1) (hcall.2.mono fun e w' ⟨v, he, hf⟩ => ⟨v, he, hn v w' hf⟩)
      cases f with
      | func g =>
        simp only [opK, callOp] at e
        have hcall : Callable P g ∧ Calls P g (args.toList.map a.eval).toArray w fun e w' => ∃ v, e = .returned v ∧ Fits w im ι h v a' w' h' := by
          by_cases hrd : E.way g = .rd
          · rw [hrd] at e
            obtain ⟨v, h1, h2⟩ := bind_some' e
            simp only [Option.some.injEq, Prod.mk.injEq] at h2
            obtain ⟨rfl, rfl⟩ := h2
            obtain ⟨g1, g2⟩ := hE.rd g hrd g (args.toList.map (evA s)) h (v, h) (by simp [h1])
            exact ⟨g1, g2 w im ι _ c.heap q1 q2⟩
          · by_cases hps : E.way g = .psh
            · rw [hps] at e
              obtain ⟨rows, h1, h2⟩ := bind_some' e
              simp only [Option.some.injEq, Prod.mk.injEq] at h2
              obtain ⟨rfl, rfl⟩ := h2
              obtain ⟨G2, s2⟩ := c.heap.pushNone (E.pshSz g)
              have hval : ∀ j, (∃ x ∈ args.toList.map (evA s), idA x = some j) → (h ++ [⟨E.pshSz g, false, []⟩])[j]? = h[j]? := fun j ⟨x, hx, hj⟩ => by
                obtain ⟨i, hi⟩ := List.getElem?_of_mem hx
                have hiv : i < (args.toList.map a.eval).length := by rw [q1]; exact (List.getElem?_eq_some_iff.1 hi).1
                have hlt : j < h.length := (q2 i _ x (List.getElem?_eq_getElem hiv) hi).idA_lt hj
                rw [List.getElem?_append_left hlt]
              have h1' := hE.pshLoc g hps _ h rows h1 _ hval
              obtain ⟨g1, g2⟩ := hE.psh g hps _ _ rows h1'
              refine ⟨g1, (g2 w im _ _ G2 q1 (fun i v x k1 k2 => (q2 i v x k1 k2).mono c.heap s2) h.length ⟨E.pshSz g, false, []⟩ (by simp) rfl rfl rfl).mono fun e w' ⟨v, he, im', ι', G', hr', st'⟩ => ⟨v, he, im', ι', ?_, ?_, ?_⟩⟩
              · rw [show h ++ [(⟨E.pshSz g, false, rows⟩ : Obj)] = (h ++ [(⟨E.pshSz g, false, []⟩ : Obj)]).set h.length ⟨E.pshSz g, false, rows⟩ from by simp]; exact G'
              · rw [show h ++ [(⟨E.pshSz g, false, rows⟩ : Obj)] = (h ++ [(⟨E.pshSz g, false, []⟩ : Obj)]).set h.length ⟨E.pshSz g, false, rows⟩ from by simp]; exact hr'
              · rw [show h ++ [(⟨E.pshSz g, false, rows⟩ : Obj)] = (h ++ [(⟨E.pshSz g, false, []⟩ : Obj)]).set h.length ⟨E.pshSz g, false, rows⟩ from by simp]; exact s2.trans st'
            exact calls_ok hC (f := g) (args := args.toList.map (evA s)) c.heap q1 q2 (E.way g) (by
              cases hw : E.way g with
              | rd => exact absurd hw hrd
              | psh => exact absurd hw hps
              | _ => rw [hw] at e; exact e)
        have := hfun g #[] rfl hcall.1
        exact wp_call this (by simpa using hcall.2.mono fun e w' ⟨v, he, hf⟩ => ⟨v, he, hn v w' hf⟩)
      | tmp t =>
        simp only [opK] at e
        cases hg : evA s (.tmp t) with
        | fn g caps => exact other g caps hg e
        | _ => rw [hg] at e; simp [callV] at e
      | const v =>
        simp only [opK] at e
        cases hg : evA s (.const v) with
        | fn g caps => exact other g caps hg e
        | _ => rw [hg] at e; simp [callV] at e
      | global g0 =>
        simp only [opK] at e
        cases hg : evA s (.global g0) with
        | fn g caps => exact other g caps hg e
        | _ => rw [hg] at e; simp [callV] at e
    | builtin b =>
      have two : ∀ {x y : Operand}, args.toList = [x, y] → args = #[x, y] := fun hh => by
        apply Array.ext'; simpa using hh
      have one : ∀ {x : Operand}, args.toList = [x] → args = #[x] := fun hh => by
        apply Array.ext'; simpa using hh
      have three : ∀ {x y z : Operand}, args.toList = [x, y, z] → args = #[x, y, z] := fun hh => by
        apply Array.ext'; simpa using hh
      cases b with
      | len =>
        simp only [opK] at e
        split at e
        case h_2 => cases e
        rename_i x hargs
        obtain rfl := one hargs
        split at e
        case h_2 => cases e
        rename_i t hty
        have : argTypes = #[t] := by apply Array.ext'; simpa using hty
        subst this
        cases hd : (E.T t).d with
        | slice et =>
          rw [hd] at e
          obtain ⟨v', h3, h4⟩ := bind_some' e
          exact leaf c (x := Builtin.len_ #[t] ty #[a.eval x]) (by simp [execOp, resolve, invoke, builtin]) (lenA_ok (hE.T.at_ hd (by simp)) hd (c.ev x) h3) h4 hn
        | _ => rw [hd] at e; cases e
      | cap =>
        simp only [opK] at e
        split at e
        case h_2 => cases e
        rename_i x hargs
        obtain rfl := one hargs
        split at e
        case h_2 => cases e
        rename_i t hty
        have : argTypes = #[t] := by apply Array.ext'; simpa using hty
        subst this
        cases hd : (E.T t).d with
        | slice et =>
          rw [hd] at e
          obtain ⟨v', h3, h4⟩ := bind_some' e
          exact leaf c (x := Builtin.cap_ #[t] ty #[a.eval x]) (by simp [execOp, resolve, invoke, builtin]) (capA_ok (hE.T.at_ hd (by simp)) hd (c.ev x) h3) h4 hn
        | _ => rw [hd] at e; cases e
      | append =>
        simp only [opK] at e
        split at e
        case h_2 => cases e
        rename_i x y t t' hargs hty
        obtain rfl := two hargs
        have : argTypes = #[t, t'] := by apply Array.ext'; simpa using hty
        subst this
        cases hd : (E.T t).d with
        | slice et =>
          rw [hd] at e
          simp only at e
          obtain ⟨hb, e2⟩ := bif_none e
          clear e
          simp only [Bool.or_eq_false_iff, Bool.not_eq_false'] at hb
          obtain ⟨hb1, hb2⟩ := hb
          have htt := Nat.eq_of_beq_eq_true hb1
          subst htt
          obtain ⟨r, h3, h4⟩ := bind_some' e2
          simp only [Option.some.injEq, Prod.mk.injEq] at h4
          obtain ⟨rfl, rfl⟩ := h4
          exact leafW c (x := Builtin.append_ #[t, t] ty #[a.eval x, a.eval y]) (by simp [execOp, resolve, invoke, builtin]) (appA_ok (hE.T.at_ hd (by simp)) hd (hE.T et (isO_ne hb2)) c.heap (c.ev x) (c.ev y) h3) hn
        | _ => rw [hd] at e; cases e
      | max =>
        simp only [opK] at e
        split at e
        · rename_i x y hargs
          obtain rfl := two hargs
          obtain ⟨v', h3, h4⟩ := bind_some' e
          obtain ⟨u, g1, g2⟩ := maxA_ok (P := P) (c.ev x) (c.ev y) h3
          exact leaf c (x := Builtin.max_ argTypes ty #[a.eval x, a.eval y]) (by simp [execOp, resolve, invoke, builtin]) ⟨u, by simp [Builtin.max_, List.foldlM, g1], g2⟩ h4 hn
        · rename_i x y z hargs
          obtain rfl := three hargs
          obtain ⟨v', h3, e⟩ := bind_some' e
          obtain ⟨v2, h5, h4⟩ := bind_some' e
          obtain ⟨u, g1, g2⟩ := maxA_ok (P := P) (c.ev x) (c.ev y) h3
          obtain ⟨u2, g3, g4⟩ := maxA_ok (P := P) g2 (c.ev z) h5
          exact leaf c (x := Builtin.max_ argTypes ty #[a.eval x, a.eval y, a.eval z]) (by simp [execOp, resolve, invoke, builtin]) ⟨u2, by simp [Builtin.max_, List.foldlM, g1, g3], g4⟩ h4 hn
        · cases e
      | min =>
        simp only [opK] at e
        split at e
        case h_2 => cases e
        rename_i x y hargs
        obtain rfl := two hargs
        obtain ⟨v', h3, h4⟩ := bind_some' e
        obtain ⟨u, g1, g2⟩ := minA_ok (P := P) (c.ev x) (c.ev y) h3
        exact leaf c (x := Builtin.min_ argTypes ty #[a.eval x, a.eval y]) (by simp [execOp, resolve, invoke, builtin]) ⟨u, by simp [Builtin.min_, List.foldlM, g1], g2⟩ h4 hn
      | _ => simp [opK] at e
  | _ => simp [opK] at e
end
end Go.Ab

namespace Go.Ab
open Go
variable [Val]
section
variable {E : Env} {C : CO} {β : Type}

theorem bind_bind {α γ : Type} (x : Option α) (f : α → Option γ) (g : γ → Option β) : (x.bind f).bind g = x.bind fun a => (f a).bind g := Option.bind_assoc ..
theorem cond_bind {α : Type} (b : Bool) (x y : Option α) (g : α → Option β) : (bif b then x else y).bind g = bif b then x.bind g else y.bind g := by cases b <;> rfl
theorem ite_bind {α : Type} (c : Prop) [Decidable c] (x y : Option α) (g : α → Option β) : (if c then x else y).bind g = if c then x.bind g else y.bind g := by split <;> rfl

theorem opK_bind (o : Op) (ρ : Operand → A) (h : H) (k : A → H → Option β) :
    opK E C o ρ h k = (opK E C o ρ h fun v h => some (v, h)).bind fun r => k r.1 r.2 := by
  cases o with
  | build t parts => simp only [opK]; split <;> simp [cond_bind, bind_bind]
  | buildSlice t len parts => simp only [opK]; split <;> simp [cond_bind, bsK, bind_bind, ite_bind]
  | binOp op t x y yt => simp only [opK]; split <;> simp [cond_bind, bind_bind]
  | convert sr ds x => simp only [opK]; split <;> simp [cond_bind, bind_bind]
  | makeFunc fn first caps => cases fn <;> simp [opK, cond_bind]
  | makeSlice t l c => simp only [opK]; split <;> simp [cond_bind, mkK]; split <;> simp [ite_bind]
  | slice t x lo hi mx => cases mx <;> simp only [opK] <;> (try split) <;> simp [cond_bind, bind_bind]
  | fieldAddr t x f => simp only [opK]; split <;> simp [cond_bind, bind_bind]
  | index t x i => simp only [opK]; split <;> simp [cond_bind, bind_bind]
  | nilCheck x => simp only [opK, nck]; split <;> simp
  | makeInterface t x => simp only [opK]; split <;> simp
  | call c =>
    obtain ⟨callee, args, argTypes⟩ := c
    cases callee with
    | invoke r m => simp [opK]
    | value f => cases f <;> simp only [opK, callOp] <;> (try split) <;> simp [bind_bind]
    | builtin b => cases b <;> simp only [opK] <;> (repeat' split) <;> simp [cond_bind, bind_bind]
  | _ => simp [opK, cond_bind, bind_bind, alK]

theorem opK_congr {ρ ρ' : Operand → A} (o : Op) (h : H) (k : A → H → Option β) (hρ : ∀ x ∈ o.operands, ρ x = ρ' x) : opK E C o ρ h k = opK E C o ρ' h k := by
  have lists : ∀ (l : Array Operand), (∀ x ∈ l, ρ x = ρ' x) → l.toList.map ρ = l.toList.map ρ' := fun l hl => List.map_congr_left fun x hx => hl x (by simpa using hx)
  cases o with
  | build t parts =>
    have : (parts.toList.map fun p => (p.1, ρ p.2)) = parts.toList.map fun p => (p.1, ρ' p.2) := List.map_congr_left fun p hp => by rw [hρ p.2 (by simp only [Op.operands]; simp; exact ⟨p.1, by simpa using hp⟩)]
    have h2 : ∀ (f : Nat → Nat × Nat), (parts.toList.map fun p => ((f p.1).1, (f p.1).2, ρ p.2)) = parts.toList.map fun p => ((f p.1).1, (f p.1).2, ρ' p.2) := fun f => List.map_congr_left fun p hp => by rw [hρ p.2 (by simp only [Op.operands]; simp; exact ⟨p.1, by simpa using hp⟩)]
    have h3 : ∀ n : Nat, (parts.toList.map fun p => (p.1 * n, n, ρ p.2)) = parts.toList.map fun p => (p.1 * n, n, ρ' p.2) := fun n => List.map_congr_left fun p hp => by rw [hρ p.2 (by simp only [Op.operands]; simp; exact ⟨p.1, by simpa using hp⟩)]
    simp only [opK]
    split
    · rename_i fs _; rw [h2 (fun i => fs.getD i (0, 0))]
    · rw [h3]
    · rfl
  | buildSlice t len parts =>
    have h2 : (parts.toList.map fun p => ρ p.2) = parts.toList.map fun p => ρ' p.2 := List.map_congr_left fun p hp => by rw [hρ p.2 (by simp only [Op.operands]; simp; exact ⟨p.1, by simpa using hp⟩)]
    simp only [opK, h2]
  | slice t x lo hi mx =>
    have h1 : ρ x = ρ' x := hρ x (by simp [Op.operands])
    cases mx with
    | some m => rfl
    | none =>
      have h2 : opA ρ lo = opA ρ' lo := by
        cases lo with
        | none => rfl
        | some l => simp only [opA]; rw [hρ l (by simp [Op.operands])]
      have h3 : opA ρ hi = opA ρ' hi := by
        cases hi with
        | none => rfl
        | some l => simp only [opA]; rw [hρ l (by simp [Op.operands])]
      simp only [opK, h1, h2, h3]
  | makeFunc fn first caps =>
    cases fn with
    | func f => simp only [opK, lists caps fun x hx => hρ x (by simp [Op.operands, hx])]
    | _ => rfl
  | call c =>
    obtain ⟨callee, args, argTypes⟩ := c
    have ha : args.toList.map ρ = args.toList.map ρ' := lists args fun x hx => hρ x (by simp [Op.operands, Call.operands, hx])
    cases callee with
    | invoke r m => rfl
    | value f =>
      have hf : ρ f = ρ' f := hρ f (by simp [Op.operands, Call.operands])
      cases f with
      | func g => simp only [opK, ha]
      | _ => simp only [opK, ha, hf]
    | builtin b =>
      have hm : ∀ x ∈ args.toList, ρ x = ρ' x := fun x hx => hρ x (by simp [Op.operands, Call.operands]; simpa using hx)
      cases b with
      | len =>
        simp only [opK]
        split
        · rename_i x hx; rw [hm x (by rw [hx]; simp)]
        · rfl
      | cap =>
        simp only [opK]
        split
        · rename_i x hx; rw [hm x (by rw [hx]; simp)]
        · rfl
      | append =>
        simp only [opK]
        split
        · rename_i x y t t' hx _; rw [hm x (by rw [hx]; simp), hm y (by rw [hx]; simp)]
        · rfl
      | max =>
        simp only [opK]
        split
        · rename_i x y hx; rw [hm x (by rw [hx]; simp), hm y (by rw [hx]; simp)]
        · rename_i x y z hx; rw [hm x (by rw [hx]; simp), hm y (by rw [hx]; simp), hm z (by rw [hx]; simp)]
        · rfl
      | min =>
        simp only [opK]
        split
        · rename_i x y hx; rw [hm x (by rw [hx]; simp), hm y (by rw [hx]; simp)]
        · rfl
      | _ => rfl
  | pick x y z => simp only [opK, hρ x (by simp [Op.operands]), hρ y (by simp [Op.operands]), hρ z (by simp [Op.operands])]
  | store t x y => simp only [opK, hρ x (by simp [Op.operands]), hρ y (by simp [Op.operands])]
  | binOp op t x y yt => simp only [opK, hρ x (by simp [Op.operands]), hρ y (by simp [Op.operands])]
  | makeSlice t x y => simp only [opK, hρ x (by simp [Op.operands]), hρ y (by simp [Op.operands])]
  | indexAddr t x y => simp only [opK, hρ x (by simp [Op.operands]), hρ y (by simp [Op.operands])]
  | index t x y => simp only [opK, hρ x (by simp [Op.operands]), hρ y (by simp [Op.operands])]
  | move x => simp only [opK, hρ x (by simp [Op.operands])]
  | assign x => simp only [opK, hρ x (by simp [Op.operands])]
  | box t x => simp only [opK, hρ x (by simp [Op.operands])]
  | load t x => simp only [opK, hρ x (by simp [Op.operands])]
  | nilCheck x => simp only [opK, hρ x (by simp [Op.operands])]
  | unOp op t x => simp only [opK, hρ x (by simp [Op.operands])]
  | convert sr ds x => simp only [opK, hρ x (by simp [Op.operands])]
  | fieldAddr t x f => simp only [opK, hρ x (by simp [Op.operands])]
  | extract x i => simp only [opK, hρ x (by simp [Op.operands])]
  | _ => rfl

/-- 0: neither reads nor writes the heap; 1: reads it; 2: writes it. -/
theorem cls_form {o : Op} (ρ : Operand → A) (h : H) (k : A → H → Option β) (hc : cls E o ≤ 1) : opK E C o ρ h k = (opK E C o ρ h fun v _ => some v).bind fun v => k v h := by
  cases o with
  | build t parts => simp only [opK]; split <;> simp [cond_bind, bind_bind]
  | binOp op t x y yt => simp only [opK]; split <;> simp [cond_bind, bind_bind]
  | convert sr ds x => simp only [opK]; split <;> simp [bind_bind]
  | makeFunc fn first caps => cases fn <;> simp [opK, cond_bind]
  | slice t x lo hi mx => cases mx <;> simp only [opK] <;> (try split) <;> simp [cond_bind, bind_bind]
  | fieldAddr t x f => simp only [opK]; split <;> simp [cond_bind, bind_bind]
  | index t x i => simp only [opK]; split <;> simp [cond_bind, bind_bind]
  | nilCheck x => simp only [opK, nck]; split <;> simp
  | makeInterface t x => simp only [opK]; split <;> simp
  | move x => simp [opK]
  | assign x => simp [opK]
  | pick x y z => simp [opK, bind_bind]
  | unOp op t x => simp [opK, bind_bind]
  | extract x i => simp [opK, bind_bind]
  | load t x => simp [opK, bind_bind, cond_bind]
  | indexAddr t x i => simp [opK, bind_bind]
  | call c =>
    obtain ⟨callee, args, argTypes⟩ := c
    cases callee with
    | invoke r m => simp [cls] at hc
    | value f =>
      cases f with
      | func g =>
        simp only [cls] at hc
        simp only [opK, callOp]
        split
        · simp [bind_bind]
        · rename_i hw; rw [hw] at hc; simp at hc
        · rename_i hw; rw [hw] at hc; simp at hc
        · simp [bind_bind]
        · rename_i hw; rw [hw] at hc; simp at hc
      | _ => simp [cls] at hc
    | builtin b => cases b <;> simp [cls] at hc <;> simp only [opK] <;> (repeat' split) <;> simp [bind_bind]
  | _ => simp [cls] at hc
theorem cls_same {o : Op} (ρ : Operand → A) (h h1 : H) (k : A → Option β) (hc : cls E o = 0) : (opK E C o ρ h fun v _ => k v) = opK E C o ρ h1 fun v _ => k v := by
  cases o with
  | call c =>
    obtain ⟨callee, args, argTypes⟩ := c
    cases callee with
    | invoke r m => simp [cls] at hc
    | value f =>
      cases f with
      | func g => simp only [cls] at hc; split at hc <;> cases hc
      | _ => simp [cls] at hc
    | builtin b => cases b <;> simp [cls] at hc <;> rfl
  | makeFunc fn first caps => cases fn <;> rfl
  | load => simp [cls] at hc
  | indexAddr => simp [cls] at hc
  | slice => simp [cls] at hc
  | _ => first | rfl | simp [cls] at hc

/-! a region's steps -/
def outV (o : Oper) (s : S) (r : A × H) : S × H := (put s o.dst r.1, r.2)
/-- One operation, its guard asked. -/
def stepV (E : Env) (C : CO) (ops : Array Oper) (o : Oper) (s : S) (h : H) : Option (S × H) :=
  match o.guard with
  | none => (opV E C o s h).map (outV o s)
  | some (j, want) => match (ops[j]?).bind (·.dst) with
    | none => none
    | some g => match gv (gdd ops j) (s g) with
      | some b => bif b == some want then (opV E C o s h).map (outV o s) else some (put s o.dst (.tup []), h)
      | none => none
theorem gv_bool {gd : Bool} {b want : Bool} : (some b == some want) = (b == want) := rfl
def foldV (E : Env) (C : CO) (ops : Array Oper) : List Nat → S → H → Option (S × H)
  | [], s, h => some (s, h)
  | i :: l, s, h => (ops[i]?).bind fun o => (stepV E C ops o s h).bind fun r => foldV E C ops l r.1 r.2

theorem put_self {s : S} {g : Nat} {v : A} (h : s g = v) : put s (some g) v = s := by
  funext i
  simp only [put]
  cases hb : Nat.beq i g with
  | true => have := Nat.eq_of_beq_eq_true hb; subst this; simp [h]
  | false => rfl
theorem opsK_cons (ops : Array Oper) (o : Oper) (rest : List Oper) (s : S) (h : H) (k : S → H → Option β) :
    opsK E C ops (o :: rest) s h k = (stepV E C ops o s h).bind fun r => opsK E C ops rest r.1 r.2 k := by
  simp only [opsK, stepV]
  cases hg : o.guard with
  | none =>
    simp only []
    rw [opK_bind]
    simp only [opV, Option.map_eq_bind, bind_bind, outV]
    rfl
  | some p =>
    obtain ⟨j, want⟩ := p
    simp only []
    cases hd : (ops[j]?).bind (·.dst) with
    | none => rfl
    | some g =>
      simp only []
      cases hs : s g with
      | bool b =>
        simp only [gdK, gv, gv_bool (gd := false)]
        cases hb : b == want with
        | true =>
          have hbw : b = want := by simpa using hb
          subst hbw
          rw [put_self hs]
          simp only [cond_true]
          rw [opK_bind]
          simp only [opV, Option.map_eq_bind, bind_bind, outV]
          rfl
        | false =>
          have hbw : b = !want := by cases b <;> cases want <;> simp_all
          simp only [cond_false]
          rw [put_self (by rw [hs, hbw])]
          rfl
      | tup l =>
        cases l with
        | cons => rfl
        | nil =>
          simp only [gdK, gv]
          cases hgd : gdd ops j with
          | false => rfl
          | true =>
            rw [put_self hs]
            rfl
      | _ => rfl
theorem opsK_fold (ops : Array Oper) (k : S → H → Option β) : ∀ (n i : Nat) (s : S) (h : H), i + n = ops.size →
    opsK E C ops (ops.toList.drop i) s h k = (foldV E C ops (List.range' i n) s h).bind fun r => k r.1 r.2 := by
  intro n
  induction n with
  | zero =>
    intro i s h hi
    have : ops.toList.drop i = [] := List.drop_eq_nil_of_le (by simp; omega)
    rw [this]
    simp [opsK, foldV]
  | succ n ih =>
    intro i s h hi
    have hlt : i < ops.toList.length := by simp; omega
    rw [List.drop_eq_getElem_cons hlt, opsK_cons, List.range'_succ]
    simp only [foldV]
    have hg : ops[i]? = some ops.toList[i] := by simp [show i < ops.size by omega]
    rw [hg]
    simp only [Option.bind_some, bind_bind]
    congr 1
    funext r
    exact ih (i + 1) r.1 r.2 (by omega)
end
end Go.Ab

namespace Go.Ab
open Go
variable [Val]
/-- The concrete state fits, come from (w0 ..). -/
def CS (nt : Nat) (w0 : World) (im0 : Nat → Prop) (ι0 : Nat → Option Nat) (h0 : H) (s : S) (h : H) (a : Act) (w : World) : Prop :=
  ∃ im ι, Conc nt a w im ι s h ∧ Stp w0 im0 ι0 h0 w im ι h
section
variable {P : Program} {E : Env} {C : CO} {nt : Nat} {w0 : World} {im0 : Nat → Prop} {ι0 : Nat → Option Nat} {h0 : H} {Q : Exit → Act → World → Prop} {ops : Array Oper}

theorem yielded_of {a : Act} {w : World} {s : S} {h : H} (c : CS nt w0 im0 ι0 h0 s h a w) {j g : Nat} {gd : Bool} {y : Option Bool} (hd : (ops[j]?).bind (·.dst) = some g) (hs : gv gd (s g) = some y) : yielded ops a.tmps j = y := by
  obtain ⟨im, ι, c, _⟩ := c
  have hr := c.rep g
  unfold yielded
  rw [hd]
  simp only [Option.bind_some]
  cases hsg : s g with
  | bool b =>
    rw [hsg] at hs hr
    simp only [gv, Option.some.injEq] at hs
    subst hs
    have hb := hr.bool
    cases hg : a.tmps[g]? with
    | none => rw [Array.getD_eq_getD_getElem?, hg] at hb; simp [undef] at hb
    | some v => rw [Array.getD_eq_getD_getElem?, hg] at hb; simp at hb; rw [hb]
  | tup l =>
    rw [hsg] at hs hr
    cases l with
    | cons => cases hs
    | nil =>
      have hy : y = none := by
        cases gd <;> simp [gv] at hs
        exact hs.symm
      subst hy
      cases hg : a.tmps[g]? with
      | none => rfl
      | some v =>
        have : a.tmps.getD g undef = v := by rw [Array.getD_eq_getD_getElem?, hg]; rfl
        rw [this] at hr
        cases hr with
        | d hd => cases hd
        | tup hl hr => rfl
  | _ => rw [hsg] at hs; cases hs
theorem step_ok (hE : EnvOK P E) (hC : CallOK P C) {a : Act} {w : World} {s s' : S} {h h' : H} (c : CS nt w0 im0 ι0 h0 s h a w) {i : Nat} {o : Oper} (ho : ops[i]? = some o) (hd : ∀ x, o.dst = some x → x < nt)
    (e : stepV E C ops o s h = some (s', h')) {K : Act → World → Prop} (hK : ∀ a' w', CS nt w0 im0 ι0 h0 s' h' a' w' → K a' w') : wpOp P ops Q i K a w := by
  have run : ∀ (e : (opV E C o s h).map (outV o s) = some (s', h')), o.wp P a w K Q := fun e => by
    cases hv : opV E C o s h with
    | none => rw [hv] at e; simp at e
    | some r =>
      rw [hv] at e
      simp only [Option.map_some, Option.some.injEq, outV, Prod.mk.injEq] at e
      obtain ⟨rfl, rfl⟩ := e
      obtain ⟨im, ι, c, st⟩ := c
      refine op_ok hE hC c (a' := r.1) (h' := r.2) (by rw [hv]) fun v w' hf => hK _ _ ?_
      obtain ⟨im', ι', G, hr, s2⟩ := hf
      exact ⟨im', ι', c.put hd G hr s2, st.trans s2⟩
  unfold wpOp
  rw [ho]
  simp only []
  unfold stepV at e
  cases hg : o.guard with
  | none =>
    rw [hg] at e
    have hw : Region.wanted o (yielded ops a.tmps) = true := by simp [Region.wanted, hg]
    rw [if_pos hw]
    exact .inl (run e)
  | some p =>
    obtain ⟨j, want⟩ := p
    rw [hg] at e
    simp only at e
    cases hdj : (ops[j]?).bind (·.dst) with
    | none => rw [hdj] at e; cases e
    | some g =>
      rw [hdj] at e
      simp only at e
      cases hs : gv (gdd ops j) (s g) with
      | some b =>
        rw [hs] at e
        simp only at e
        have hy := yielded_of c hdj hs
        cases hb : b == some want with
        | true =>
          rw [hb] at e
          have hbw : b = some want := by simpa using hb
          have hw : Region.wanted o (yielded ops a.tmps) = true := by simp [Region.wanted, hg, hy, hbw]
          rw [if_pos hw]
          exact .inl (run e)
        | false =>
          rw [hb] at e
          have hw : Region.wanted o (yielded ops a.tmps) = false := by
            have hne : b ≠ some want := by simpa using hb
            simp [Region.wanted, hg, hy, hne]
          rw [if_neg (by rw [hw]; simp)]
          simp only [cond_false, Option.some.injEq, Prod.mk.injEq] at e
          obtain ⟨rfl, rfl⟩ := e
          obtain ⟨im, ι, c, st⟩ := c
          exact hK _ _ ⟨im, ι, c.put hd c.heap (.tup rfl fun i v a hv => by simp at hv) (Stp.refl _ _ _ _), st⟩
      | none => rw [hs] at e; cases e

/-- In the text's order. -/
theorem fold_ok (hE : EnvOK P E) (hC : CallOK P C) (hdst : ∀ (i : Nat) o, ops[i]? = some o → ∀ x, o.dst = some x → x < nt) : ∀ (l : List Nat) (a : Act) (w : World) (s s' : S) (h h' : H), CS nt w0 im0 ι0 h0 s h a w →
    foldV E C ops l s h = some (s', h') → (∀ a' w', CS nt w0 im0 ι0 h0 s' h' a' w' → Q .normal a' w') → wpOps P ops Q l a w := by
  intro l
  induction l with
  | nil =>
    intro a w s s' h h' c e hq
    simp only [foldV, Option.some.injEq, Prod.mk.injEq] at e
    obtain ⟨rfl, rfl⟩ := e
    exact hq a w c
  | cons i l ih =>
    intro a w s s' h h' c e hq
    simp only [foldV] at e
    obtain ⟨o, ho, e⟩ := bind_some' e
    obtain ⟨r, hr, e⟩ := bind_some' e
    rw [wpOps_cons]
    exact step_ok hE hC c ho (hdst i o ho) (s' := r.1) (h' := r.2) hr fun a' w' c' => ih a' w' r.1 s' r.2 h' c' e hq

/-! in whatever order -/
/-- Two operations that may change places. -/
def comm (E : Env) (ops : Array Oper) (x y : Oper) : Bool :=
  x.apart ops y && (Nat.beq (cls E x.op) 0 || Nat.beq (cls E y.op) 0 || (Nat.ble (cls E x.op) 1 && Nat.ble (cls E y.op) 1))

theorem looks_operand {o : Oper} {d : Nat} (hn : d ∉ o.looksAt ops) : (∀ x ∈ o.op.operands, x ≠ .tmp d) ∧ ∀ j want, o.guard = some (j, want) → (ops[j]?).bind (·.dst) ≠ some d := by
  constructor
  · intro x hx he
    subst he
    apply hn
    simp only [Oper.looksAt, List.mem_append, List.mem_filterMap]
    exact .inl ⟨.tmp d, by simpa using hx, rfl⟩
  · intro j want hg he
    apply hn
    simp only [Oper.looksAt, List.mem_append, hg]
    right
    rw [he]; simp

theorem evA_put {s : S} {d : Option Nat} {v : A} {x : Operand} (h : ∀ t, d = some t → x ≠ .tmp t) : evA (put s d v) x = evA s x := by
  cases d with
  | none => rfl
  | some d =>
    cases x with
    | tmp t =>
      have hne : t ≠ d := fun e => h d rfl (e ▸ rfl)
      simp only [evA, put]
      have hb : Nat.beq t d = false := by
        rw [← Bool.not_eq_true]; intro hh; exact hne (Nat.eq_of_beq_eq_true hh)
      rw [hb]; rfl
    | _ => rfl
theorem put_comm {s : S} {d e : Option Nat} {v u : A} (h : ∀ t, d = some t → e ≠ some t) : put (put s d v) e u = put (put s e u) d v := by
  cases d with
  | none => rfl
  | some d =>
    cases e with
    | none => rfl
    | some e =>
      have hne : d ≠ e := fun hh => h d rfl (hh ▸ rfl)
      funext i
      simp only [put]
      cases h1 : Nat.beq i e <;> cases h2 : Nat.beq i d <;> try rfl
      have e1 := Nat.eq_of_beq_eq_true h1
      have e2 := Nat.eq_of_beq_eq_true h2
      omega
/-- An operation does not see what it does not look at. -/
theorem stepV_put {o : Oper} {s : S} {h : H} {d : Option Nat} {v : A} (hn : ∀ t, d = some t → t ∉ o.looksAt ops) (hd : ∀ t, d = some t → o.dst ≠ some t) :
    stepV E C ops o (put s d v) h = (stepV E C ops o s h).map fun r => (put r.1 d v, r.2) := by
  have hop : opV E C o (put s d v) h = opV E C o s h := opK_congr _ _ _ fun x hx => evA_put fun t ht => (looks_operand (hn t ht)).1 x hx
  have hout : ∀ r, outV o (put s d v) r = (put (outV o s r).1 d v, (outV o s r).2) := fun r => by
    simp only [outV]; rw [put_comm hd]
  unfold stepV
  cases hg : o.guard with
  | none => simp only [hop, Option.map_map]; congr 1; funext r; exact hout r
  | some p =>
    obtain ⟨j, want⟩ := p
    simp only []
    cases hdj : (ops[j]?).bind (·.dst) with
    | none => rfl
    | some g =>
      simp only []
      have hsg : put s d v g = s g := by
        cases d with
        | none => rfl
        | some d =>
          have hne : g ≠ d := fun e => (looks_operand (hn d rfl)).2 j want hg (by rw [hdj, e])
          simp only [put]
          have hb : Nat.beq g d = false := by
            rw [← Bool.not_eq_true]; intro hh; exact hne (Nat.eq_of_beq_eq_true hh)
          rw [hb]; rfl
      rw [hsg]
      cases gv (gdd ops j) (s g) with
      | some b =>
        simp only []
        cases b == some want with
        | true => simp only [cond_true, hop, Option.map_map]; congr 1; funext r; exact hout r
        | false => simp only [cond_false, Option.map_some]; rw [put_comm hd]
      | none => rfl
/-- What an operation comes to: a value for its slot, and the heap. -/
theorem stepV_form {o : Oper} {s s' : S} {h h' : H} (e : stepV E C ops o s h = some (s', h')) : ∃ v, s' = put s o.dst v ∧ (cls E o.op ≤ 1 → h' = h) ∧
    (cls E o.op = 0 → ∀ h1, stepV E C ops o s h1 = some (s', h1)) := by
  have run : ∀ (e : (opV E C o s h).map (outV o s) = some (s', h')), ∃ v, s' = put s o.dst v ∧ (cls E o.op ≤ 1 → h' = h) ∧ (cls E o.op = 0 → ∀ h1, (opV E C o s h1).map (outV o s) = some (s', h1)) := fun e => by
    cases hv : opV E C o s h with
    | none => rw [hv] at e; simp at e
    | some r =>
      rw [hv] at e
      simp only [Option.map_some, Option.some.injEq, outV, Prod.mk.injEq] at e
      obtain ⟨rfl, rfl⟩ := e
      refine ⟨r.1, rfl, fun hc => ?_, fun hc h1 => ?_⟩
      · have := cls_form (E := E) (C := C) (evA s) h (fun v h => some (v, h)) hc
        simp only [opV] at hv
        rw [this] at hv
        obtain ⟨v, h2, h3⟩ := bind_some' hv
        exact (congrArg Prod.snd (Option.some.inj h3)).symm
      · have f1 := cls_form (E := E) (C := C) (evA s) h (fun v h => some (v, h)) (by omega : cls E o.op ≤ 1)
        have f2 := cls_form (E := E) (C := C) (evA s) h1 (fun v h => some (v, h)) (by omega : cls E o.op ≤ 1)
        simp only [opV] at hv ⊢
        rw [f1] at hv
        obtain ⟨v, h2, h3⟩ := bind_some' hv
        rw [f2, ← cls_same (evA s) h h1 some hc, h2]
        have hv1 : v = r.1 := congrArg Prod.fst (Option.some.inj h3)
        subst hv1
        rfl
  unfold stepV at e ⊢
  cases hg : o.guard with
  | none => rw [hg] at e; exact run e
  | some p =>
    obtain ⟨j, want⟩ := p
    rw [hg] at e
    simp only at e ⊢
    cases hdj : (ops[j]?).bind (·.dst) with
    | none => rw [hdj] at e; cases e
    | some g =>
      rw [hdj] at e
      simp only at e ⊢
      cases hs : gv (gdd ops j) (s g) with
      | some b =>
        rw [hs] at e
        simp only at e ⊢
        cases hb : b == some want with
        | true => rw [hb] at e; exact run e
        | false =>
          rw [hb] at e
          simp only [cond_false, Option.some.injEq, Prod.mk.injEq] at e
          obtain ⟨rfl, rfl⟩ := e
          exact ⟨.tup [], rfl, fun _ => rfl, fun _ h1 => rfl⟩
      | none => rw [hs] at e; cases e

theorem swap {x y : Oper} {s s1 s2 : S} {h h1 h2 : H} (hc : comm E ops x y = true) (e1 : stepV E C ops x s h = some (s1, h1)) (e2 : stepV E C ops y s1 h1 = some (s2, h2)) :
    ∃ t k, stepV E C ops y s h = some (t, k) ∧ stepV E C ops x t k = some (s2, h2) := by
  simp only [comm, Bool.and_eq_true, Bool.or_eq_true] at hc
  obtain ⟨hap, hcl⟩ := hc
  obtain ⟨a1, a2, a3⟩ := Oper.apart_spec hap
  obtain ⟨v, rfl, r1, f1⟩ := stepV_form e1
  have hy : ∀ k, stepV E C ops y (put s x.dst v) k = (stepV E C ops y s k).map fun r => (put r.1 x.dst v, r.2) := fun k => stepV_put (fun t ht => a1 t ht) (fun t ht => a2 t ht)
  rw [hy] at e2
  cases hys : stepV E C ops y s h1 with
  | none => rw [hys] at e2; simp at e2
  | some r =>
    rw [hys] at e2
    simp only [Option.map_some, Option.some.injEq, Prod.mk.injEq] at e2
    obtain ⟨rfl, rfl⟩ := e2
    obtain ⟨u, hu, r2, f2⟩ := stepV_form hys
    have hxu : ∀ k, stepV E C ops x (put s y.dst u) k = (stepV E C ops x s k).map fun r => (put r.1 y.dst u, r.2) := fun k => stepV_put (fun t ht => a3 t ht) (fun t ht hh => a2 t hh ht)
    have hcomm : put (put s x.dst v) y.dst u = put (put s y.dst u) x.dst v := put_comm fun t ht => a2 t ht
    rcases hcl with (hcl | hcl) | hcl
    · have h0 : cls E x.op = 0 := Nat.eq_of_beq_eq_true hcl
      have hh := r1 (by omega)
      subst hh
      refine ⟨r.1, r.2, hys, ?_⟩
      rw [hu, hxu, f1 h0 r.2]
      simp [hcomm]
    · have h0 : cls E y.op = 0 := Nat.eq_of_beq_eq_true hcl
      have hh := r2 (by omega)
      have := f2 h0 h
      refine ⟨r.1, h, this, ?_⟩
      rw [hu, hxu, e1, hh]
      simp [hcomm]
    · have hx1 : cls E x.op ≤ 1 := Nat.le_of_ble_eq_true hcl.1
      have hy1 : cls E y.op ≤ 1 := Nat.le_of_ble_eq_true hcl.2
      have hh := r1 hx1
      have hh2 := r2 hy1
      subst hh
      refine ⟨r.1, r.2, hys, ?_⟩
      rw [hu, hxu, hh2, e1]
      simp [hcomm]

/-- An operation drawn ahead of others. -/
theorem front : ∀ (X : List Nat) (i : Nat) (o : Oper) (Y : List Nat) (s : S) (h : H) (r : S × H), ops[i]? = some o → (∀ x ∈ X, ∀ p, ops[x]? = some p → comm E ops p o = true) →
    foldV E C ops (X ++ i :: Y) s h = some r → foldV E C ops (i :: (X ++ Y)) s h = some r := by
  intro X
  induction X with
  | nil => intro i o Y s h r _ _ e; exact e
  | cons x X ih =>
    intro i o Y s h r ho hc e
    simp only [List.cons_append, foldV] at e
    obtain ⟨p, hp, e⟩ := bind_some' e
    obtain ⟨r1, h1, e⟩ := bind_some' e
    have := ih i o Y r1.1 r1.2 r ho (fun y hy => hc y (by simp [hy])) e
    simp only [foldV, ho, Option.bind_some] at this
    obtain ⟨r2, h2, e2⟩ := bind_some' this
    obtain ⟨t, k, g1, g2⟩ := swap (hc x (by simp) p hp) (s1 := r1.1) (h1 := r1.2) (s2 := r2.1) (h2 := r2.2) h1 h2
    simp only [foldV, List.cons_append, ho, Option.bind_some, g1, hp, g2]
    exact e2
end
end Go.Ab

namespace Go.Ab
open Go
variable [Val]
/-- Those of a region's operations that nothing orders may change places. -/
def reorderOk (E : Env) (ops : Array Oper) : Bool :=
  let m := masks ops.toList []
  (ops.toList.zipIdx.all fun p => p.1.after.toList.all fun e => !Region.binds .any e || Nat.blt e.on p.2) &&
  ops.toList.zipIdx.all fun p => ops.toList.zipIdx.all fun q => Nat.ble p.2 q.2 || (m.getD p.2 0).testBit q.2 || comm E ops q.1 p.1
section
variable {P : Program} {E : Env} {C : CO} {nt : Nat} {w0 : World} {im0 : Nat → Prop} {ι0 : Nat → Option Nat} {h0 : H} {Q : Exit → Act → World → Prop} {ops : Array Oper}

def Shut (ops : Array Oper) (L : Nat → Prop) : Prop := ∀ (j : Nat) o, L j → ops[j]? = some o → ∀ e ∈ o.after.toList, Region.binds .any e = true → L e.on
def Good (ops : Array Oper) (acc : List Nat) : Prop := ∀ (j : Nat), j < acc.length → ∀ o, ops[j]? = some o → ∀ i, (acc.getD j 0).testBit i = true → ∀ L, Shut ops L → (∀ e ∈ o.after.toList, Region.binds .any e = true → L e.on) → L i
theorem fold_bits (acc : List Nat) (i : Nat) : ∀ (l : List Edge) (s : Nat), (l.foldl (fun s e => bif Region.binds .any e then s ||| 2 ^ e.on ||| acc.getD e.on 0 else s) s).testBit i = true →
    s.testBit i = true ∨ ∃ e ∈ l, Region.binds .any e = true ∧ (e.on = i ∨ (acc.getD e.on 0).testBit i = true) := by
  intro l
  induction l with
  | nil => intro s h; exact .inl h
  | cons e l ih =>
    intro s h
    simp only [List.foldl_cons] at h
    rcases ih _ h with h1 | ⟨e', h1, h2⟩
    · cases hb : Region.binds .any e with
      | false => rw [hb] at h1; exact .inl h1
      | true =>
        rw [hb] at h1
        simp only [cond_true, Nat.testBit_or, Bool.or_eq_true] at h1
        rcases h1 with (h1 | h1) | h1
        · exact .inl h1
        · refine .inr ⟨e, by simp, hb, .inl ?_⟩
          rw [Nat.testBit_two_pow] at h1
          simpa using h1
        · exact .inr ⟨e, by simp, hb, .inr h1⟩
    · exact .inr ⟨e', by simp [h1], h2⟩
theorem masks_good : ∀ (os : List Oper) (acc : List Nat) (k : Nat), acc.length = k → os = ops.toList.drop k → Good ops acc → Good ops (masks os acc) ∧ (masks os acc).length = k + os.length := by
  intro os
  induction os with
  | nil => intro acc k hk _ hg; exact ⟨hg, by simp [masks, hk]⟩
  | cons o os ih =>
    intro acc k hk ho hg
    simp only [masks]
    have hkl : k < ops.toList.length := by
      rcases Nat.lt_or_ge k ops.toList.length with h | h
      · exact h
      · rw [List.drop_eq_nil_of_le h] at ho; cases ho
    rw [List.drop_eq_getElem_cons hkl] at ho
    injection ho with ho1 ho2
    have hok : ops[k]? = some o := by rw [ho1]; simp at hkl; simp [hkl]
    obtain ⟨g1, g2⟩ := ih (acc ++ [maskOf acc o]) (k + 1) (by simp [hk]) ho2 (by
      intro j hj o' ho' i hi L hs he
      rw [List.length_append, List.length_singleton] at hj
      by_cases hjk : j < acc.length
      · rw [List.getD_eq_getElem?_getD, List.getElem?_append_left hjk, ← List.getD_eq_getElem?_getD] at hi
        exact hg j hjk o' ho' i hi L hs he
      · have hjk' : j = acc.length := by omega
        subst hjk'
        rw [List.getD_eq_getElem?_getD, List.getElem?_append_right (Nat.le_refl _), Nat.sub_self] at hi
        simp only [List.getElem?_cons_zero, Option.getD_some] at hi
        rw [hk, hok] at ho'
        cases ho'
        rcases fold_bits acc i _ 0 hi with h1 | ⟨e, h1, h2, h3⟩
        · simp at h1
        · rcases h3 with h3 | h3
          · rw [← h3]; exact he e h1 h2
          · have hlt : e.on < acc.length := by
              rcases Nat.lt_or_ge e.on acc.length with h | h
              · exact h
              · rw [List.getD_eq_getElem?_getD, List.getElem?_eq_none h] at h3; simp at h3
            have hL := he e h1 h2
            have hlt2 : e.on < ops.size := by simp at hkl; omega
            have hops : ops[e.on]? = some (ops[e.on]'hlt2) := by simp [hlt2]
            exact hg e.on hlt _ hops i h3 L hs fun e' he' hb' => hs e.on _ hL hops e' he' hb')
    exact ⟨g1, by rw [g2]; simp; omega⟩

theorem draw_ok (hE : EnvOK P E) (hC : CallOK P C) (hdst : ∀ (i : Nat) o, ops[i]? = some o → ∀ x, o.dst = some x → x < nt) (hr : reorderOk E ops = true)
    {s' : S} {h' : H} (hq : ∀ a' w', CS nt w0 im0 ι0 h0 s' h' a' w' → Q .normal a' w') :
    ∀ (fuel : Nat) (listed : Array Bool) (R : List Nat) (a : Act) (w : World) (s : S) (h : H), R.length ≤ fuel → listed.size = ops.size → R.Pairwise (· < ·) → (∀ i, i ∈ R ↔ i < ops.size ∧ listed.getD i true = false) →
      Shut ops (fun j => listed.getD j false = true) → CS nt w0 im0 ι0 h0 s h a w → foldV E C ops R s h = some (s', h') → wpAny P .any ops Q fuel listed a w := by
  simp only [reorderOk, Bool.and_eq_true] at hr
  obtain ⟨hback, hcomm⟩ := hr
  obtain ⟨hgood, hml⟩ := masks_good (ops := ops) ops.toList [] 0 rfl (by simp) (by intro j hj; simp at hj)
  have at_ : ∀ (i : Nat) o, ops[i]? = some o → (o, i) ∈ ops.toList.zipIdx := fun i o ho => by
    rw [List.mem_zipIdx_iff_getElem?]; simpa using ho
  have back : ∀ (i : Nat) o, ops[i]? = some o → ∀ e ∈ o.after.toList, Region.binds .any e = true → e.on < i := fun i o ho e he hb => by
    have := List.all_eq_true.1 (List.all_eq_true.1 hback (o, i) (at_ i o ho)) e he
    simp only [hb, Bool.not_true, Bool.false_or] at this
    simpa using this
  have ready_mem : ∀ (listed : Array Bool) (i : Nat), i ∈ Region.ready .any ops listed ↔ i < ops.size ∧ listed.getD i true = false ∧ ∃ o, ops[i]? = some o ∧ ∀ e ∈ o.after.toList, Region.binds .any e = true → listed.getD e.on false = true := fun listed i => by
    simp only [Region.ready, List.mem_filter, List.mem_range, Bool.and_eq_true, Bool.not_eq_true']
    constructor
    · rintro ⟨h1, h2, h3⟩
      refine ⟨h1, h2, ops[i], by simp [h1], fun e he hb => ?_⟩
      simp only [Array.getElem?_eq_getElem h1, Option.map_some, Option.getD_some] at h3
      rw [← Array.all_toList, List.all_eq_true] at h3
      have := h3 e he
      simpa [hb] using this
    · rintro ⟨h1, h2, o, h3, h4⟩
      refine ⟨h1, h2, ?_⟩
      rw [h3]
      simp only [Option.map_some, Option.getD_some]
      rw [← Array.all_toList, List.all_eq_true]
      intro e he
      cases hb : Region.binds .any e with
      | false => simp
      | true => simpa [hb] using h4 e he hb
  have empty : ∀ (listed : Array Bool) (R : List Nat), R.Pairwise (· < ·) → (∀ i, i ∈ R ↔ i < ops.size ∧ listed.getD i true = false) → listed.size = ops.size → Region.ready .any ops listed = [] → R = [] := fun listed R hp hm hsz he => by
    cases R with
    | nil => rfl
    | cons i R =>
      exfalso
      obtain ⟨h1, h2⟩ := (hm i).1 (by simp)
      have : i ∈ Region.ready .any ops listed := by
        rw [ready_mem]
        refine ⟨h1, h2, ops[i], by simp [h1], fun e he hb => ?_⟩
        have hlt := back i _ (by simp [h1]) e he hb
        cases hg : listed.getD e.on true with
        | true =>
          rw [Array.getD_eq_getD_getElem?] at hg ⊢
          have : e.on < listed.size := by rw [hsz]; omega
          simp only [Array.getElem?_eq_getElem this, Option.getD_some] at hg ⊢
          exact hg
        | false =>
          have hmem := (hm e.on).2 ⟨by omega, hg⟩
          rcases List.mem_cons.1 hmem with h3 | h3
          · omega
          · have := (List.pairwise_cons.1 hp).1 e.on h3; omega
      rw [he] at this
      cases this
  intro fuel
  induction fuel with
  | zero =>
    intro listed R a w s h hlen hsz hp hm hsh c e
    obtain rfl : R = [] := List.eq_nil_of_length_eq_zero (by omega)
    simp only [foldV, Option.some.injEq, Prod.mk.injEq] at e
    obtain ⟨rfl, rfl⟩ := e
    refine ⟨?_, hq a w c⟩
    rw [List.eq_nil_iff_forall_not_mem]
    intro i hi
    obtain ⟨h1, h2, _⟩ := (ready_mem listed i).1 hi
    have := (hm i).2 ⟨h1, h2⟩
    cases this
  | succ fuel ih =>
    intro listed R a w s h hlen hsz hp hm hsh c e
    refine ⟨fun he => ?_, fun i hi => ?_⟩
    · obtain rfl := empty listed R hp hm hsz he
      simp only [foldV, Option.some.injEq, Prod.mk.injEq] at e
      obtain ⟨rfl, rfl⟩ := e
      exact hq a w c
    · obtain ⟨h1, h2, o, ho, hed⟩ := (ready_mem listed i).1 hi
      have hiR := (hm i).2 ⟨h1, h2⟩
      obtain ⟨X, Y, rfl⟩ := List.append_of_mem hiR
      rw [List.pairwise_append] at hp
      obtain ⟨hpX, hpY, hXY⟩ := hp
      have hXi : ∀ x ∈ X, x < i := fun x hx => hXY x hx i (by simp)
      have hfront := front X i o Y s h (s', h') ho (fun x hx p hpx => by
        have hxi := hXi x hx
        obtain ⟨hx1, hx2⟩ := (hm x).1 (by simp [hx])
        have hall := List.all_eq_true.1 (List.all_eq_true.1 hcomm (o, i) (at_ i o ho)) (p, x) (at_ x p hpx)
        simp only [Bool.or_eq_true] at hall
        rcases hall with (hall | hall) | hall
        · have := Nat.le_of_ble_eq_true hall; omega
        · exfalso
          have hl := hgood i (by rw [hml]; simp; exact h1) o ho x hall (fun j => listed.getD j false = true) hsh hed
          rw [Array.getD_eq_getD_getElem?] at hl hx2
          cases hg : listed[x]? with
          | none => rw [hg] at hl; simp at hl
          | some b => rw [hg] at hl hx2; simp at hl hx2; rw [hl] at hx2; cases hx2
        · exact hall) e
      simp only [foldV, ho, Option.bind_some] at hfront
      obtain ⟨r, hr1, hr2⟩ := bind_some' hfront
      refine step_ok hE hC c ho (hdst i o ho) (s' := r.1) (h' := r.2) hr1 fun a' w' c' => ?_
      have hgi : ∀ j (d : Bool), (listed.setIfInBounds i true).getD j d = if j = i then true else listed.getD j d := fun j d => by
        rw [Array.getD_eq_getD_getElem?, Array.getD_eq_getD_getElem?]
        by_cases hj : j = i
        · subst hj
          have : j < listed.size := by rw [hsz]; exact h1
          simp [this]
        · rw [Array.getElem?_setIfInBounds_ne (fun hh => hj hh.symm), if_neg hj]
      refine ih (listed.setIfInBounds i true) (X ++ Y) a' w' r.1 r.2 (by simp at hlen ⊢; omega) (by simpa using hsz) ?_ (fun j => ?_) (fun j o' hj ho' e' he' hb' => ?_) c' hr2
      · rw [List.pairwise_append]
        exact ⟨hpX, (List.pairwise_cons.1 hpY).2, fun x hx y hy => hXY x hx y (by simp [hy])⟩
      · rw [hgi]
        have hm' := hm j
        simp only [List.mem_append, List.mem_cons] at hm' ⊢
        by_cases hj : j = i
        · subst hj
          rw [if_pos rfl]
          constructor
          · rintro (hx | hy)
            · have := hXi j hx; omega
            · have := (List.pairwise_cons.1 hpY).1 j hy; omega
          · rintro ⟨_, hh⟩; cases hh
        · rw [if_neg hj, ← hm']
          constructor
          · rintro (hx | hy)
            · exact .inl hx
            · exact .inr (.inr hy)
          · rintro (hx | hy | hy)
            · exact .inl hx
            · exact absurd hy hj
            · exact .inr hy
      · simp only at hj ⊢
        rw [hgi] at hj ⊢
        split
        · rfl
        · split at hj
          · rename_i hji
            subst hji
            rw [ho] at ho'; cases ho'
            exact hed e' he' hb'
          · exact hsh j o' hj ho' e' he' hb'
end
end Go.Ab

namespace Go.Ab
open Go
variable [Val]
section
variable {E : Env} {C : CO} {β : Type}
theorem setD_bind {γ : Type} (b sz : Nat) (rows : List (List A)) (h : H) (k : H → Option γ) (f : γ → Option β) : (setD b sz rows h k).bind f = setD b sz rows h fun h => (k h).bind f := by
  unfold setD
  split
  · rw [cond_bind]; rfl
  · rfl
theorem opD_bind (b : Nat) (o : Op) (ρ : Operand → A) (h : H) (k : A → H → Option β) :
    opD E C b o ρ h k = (opD E C b o ρ h fun v h => some (v, h)).bind fun r => k r.1 r.2 := by
  cases o with
  | alloc t => simp only [opD, cond_bind, alD, setD_bind]; rfl
  | box t x => simp only [opD, alD, bind_bind, cond_bind, setD_bind]; rfl
  | buildSlice t len parts =>
    simp only [opD, bsD]
    split
    · simp only [cond_bind, bind_bind, ite_bind, setD_bind]; rfl
    · rfl
  | makeSlice t l c =>
    simp only [opD, mkD]
    split
    · rw [cond_bind]
      congr 1
      split
      · rw [ite_bind, setD_bind]; rfl
      · rfl
    · rfl
  | call c =>
    obtain ⟨callee, args, argTypes⟩ := c
    cases callee with
    | invoke r m => rfl
    | value f =>
      cases f with
      | func g => simp only [opD]; split <;> simp [cond_bind, bind_bind, setD_bind]
      | _ => rfl
    | builtin bi =>
      cases bi with
      | append =>
        simp only [opD]
        split
        · rw [cond_bind, opK_bind]; rfl
        · rfl
      | _ => simp only [opD]; exact opK_bind _ _ _ _
  | _ => simp only [opD]; exact opK_bind _ _ _ _
def opDV (E : Env) (C : CO) (b : Nat) (o : Oper) (s : S) (h : H) : Option (A × H) := opD E C b o.op (evA s) h fun v h => some (v, h)
def stepD (E : Env) (C : CO) (ops : Array Oper) (b : Nat) (o : Oper) (s : S) (h : H) : Option (S × H) :=
  match o.guard with
  | none => (opDV E C b o s h).map (outV o s)
  | some (j, want) => match (ops[j]?).bind (·.dst) with
    | none => none
    | some g => match gv (gdd ops j) (s g) with
      | some c => bif c == some want then (opDV E C b o s h).map (outV o s) else some (put s o.dst (.tup []), h)
      | none => none
def foldD (E : Env) (C : CO) (ops : Array Oper) (b : Nat) : List Nat → S → H → Option (S × H)
  | [], s, h => some (s, h)
  | i :: l, s, h => (ops[i]?).bind fun o => (stepD E C ops (b + rankP E ops i) o s h).bind fun r => foldD E C ops b l r.1 r.2
theorem opsD_fold (ops : Array Oper) (b : Nat) (k : S → H → Option β) : ∀ (l : List Nat) (s : S) (h : H),
    opsD E C ops b l s h k = (foldD E C ops b l s h).bind fun r => k r.1 r.2
  | [], s, h => rfl
  | i :: l, s, h => by
    simp only [opsD, foldD, stepD]
    cases ho : ops[i]? with
    | none => rfl
    | some o =>
      simp only [Option.bind_some]
      cases hg : o.guard with
      | none =>
        simp only []
        rw [opD_bind]
        simp only [opDV, Option.map_eq_bind, bind_bind, outV]
        congr 1; funext r
        exact opsD_fold ops b k l _ _
      | some p =>
        obtain ⟨j, want⟩ := p
        simp only []
        cases hd : (ops[j]?).bind (·.dst) with
        | none => rfl
        | some g =>
          simp only []
          cases hs : s g with
          | bool c =>
            simp only [gdK, gv, gv_bool (gd := false)]
            cases hb : c == want with
            | true =>
              have hbw : c = want := by simpa using hb
              subst hbw
              rw [put_self hs]
              simp only [cond_true]
              rw [opD_bind]
              simp only [opDV, Option.map_eq_bind, bind_bind, outV]
              congr 1; funext r
              exact opsD_fold ops b k l _ _
            | false =>
              have hbw : c = !want := by cases c <;> cases want <;> simp_all
              simp only [cond_false]
              rw [put_self (by rw [hs, hbw])]
              exact opsD_fold ops b k l _ _
          | tup l2 =>
            cases l2 with
            | cons => rfl
            | nil =>
              simp only [gdK, gv]
              cases hgd : gdd ops j with
              | false => rfl
              | true =>
                rw [put_self hs]
                exact opsD_fold ops b k l _ _
          | _ => rfl
/-- All but the pushes run as ever. -/
theorem opD_opK {b : Nat} {o : Op} {ρ : Operand → A} {h : H} {r : A × H} (hp : (pushSz E o).isSome = false) (e : opD E C b o ρ h (fun v h => some (v, h)) = some r) : opK E C o ρ h (fun v h => some (v, h)) = some r := by
  cases o with
  | alloc t => cases hp
  | box t x => cases hp
  | buildSlice t len parts =>
    simp only [opD] at e
    split at e
    · rename_i hd; simp [pushSz, hd] at hp
    · cases e
  | makeSlice t l c =>
    simp only [opD] at e
    split at e
    · rename_i hd; simp [pushSz, hd] at hp
    · cases e
  | call c =>
    obtain ⟨callee, args, argTypes⟩ := c
    cases callee with
    | invoke r m => exact e
    | value f =>
      cases f with
      | func g =>
        simp only [opD] at e
        simp only [opK, callOp]
        cases hw : E.way g with
        | pure sl => rw [hw] at e; exact (bif_some e).2
        | rd => rw [hw] at e; exact e
        | psh => simp [pushSz, hw] at hp
        | keep => rw [hw] at e; exact e
        | st => rw [hw] at e; cases e
      | _ => cases e
    | builtin bi =>
      cases bi with
      | append =>
        simp only [opD] at e
        split at e
        · exact (bif_none e).2
        · cases e
      | _ => exact e
  | _ => exact e
theorem setD_some {b sz : Nat} {rows : List (List A)} {h : H} {k : H → Option β} {r : β} (e : setD b sz rows h k = some r) :
    ∃ o, h[b]? = some o ∧ o.sz = sz ∧ o.fz = false ∧ o.rows = [] ∧ k (h.set b ⟨sz, false, rows⟩) = some r := by
  unfold setD at e
  split at e
  · rename_i o ho
    obtain ⟨h1, h2⟩ := bif_some e
    simp only [Bool.and_eq_true, Bool.not_eq_true', List.isEmpty_iff] at h1
    exact ⟨o, ho, Nat.eq_of_beq_eq_true h1.1, h1.2.1, h1.2.2, h2⟩
  · cases e
end
section
variable {P : Program} {E : Env} {C : CO} {w : World} {im : Nat → Prop} {ι : Nat → Option Nat} {s : S} {h : H} {a : Act} {nt : Nat} {next : Act → World → Prop} {Q : Exit → Act → World → Prop}
theorem leafP (c : Conc nt a w im ι s h) {o : Oper} {x : Sem Value} {mkv : Nat → A} {sz : Nat} {rows : List (List A)} (hx : execOp a.eval o = (do pure (.value (← x))))
    (hl : ∃ v w', x.run P w = .ok v w' ∧ Puts w im ι h v mkv w' sz rows) {b : Nat} {a' : A} {h' : H} (e : setD b sz rows h (fun h => some (mkv b, h)) = some (a', h'))
    (hn : ∀ v w', Fits w im ι h v a' w' h' → next (a.put o.dst v) w') : o.wp P a w next Q := by
  obtain ⟨v, w', hv, hr⟩ := hl
  obtain ⟨ob, h1, h2, h3, h4, h5⟩ := setD_some e
  simp only [Option.some.injEq, Prod.mk.injEq] at h5
  obtain ⟨rfl, rfl⟩ := h5
  exact wp_val (v := v) (w' := w') (by rw [hx]; simp [hv]) (hn v w' (hr.2 b ob h1 h2 h3 h4))
theorem opD_ok (hE : EnvOK P E) (hC : CallOK P C) (c : Conc nt a w im ι s h) {b : Nat} {o : Oper} {a' : A} {h' : H} (e : opDV E C b o s h = some (a', h'))
    (hn : ∀ v w', Fits w im ι h v a' w' h' → next (a.put o.dst v) w') : o.wp P a w next Q := by
  by_cases hp : (pushSz E o.op).isSome = false
  · exact op_ok hE hC c (opD_opK hp e) hn
  obtain ⟨dst, op, ty, pos, after, guard⟩ := o
  simp only [opDV] at e
  cases op with
  | alloc t =>
    simp only [opD] at e
    obtain ⟨h1, h2⟩ := bif_none e
    exact leafP c (mkv := fun b => .ptr b 1 0 0) rfl (alloc_ok (hE.T t (isO_ne h1)) c.heap) h2 hn
  | box t x =>
    simp only [opD] at e
    obtain ⟨cs, h1, h2⟩ := bind_some' e
    exact leafP c (mkv := fun b => .ptr b 1 0 0) rfl (box_ok c.heap (c.ev x) h1) (bif_some h2).2 hn
  | buildSlice t len parts =>
    simp only [opD] at e
    cases hd : (E.T t).d with
    | slice et =>
      rw [hd] at e
      simp only at e
      obtain ⟨he, e⟩ := bif_none e
      obtain ⟨hix, e⟩ := bif_some e
      simp only [bsD] at e
      obtain ⟨rows, h3, h4⟩ := bind_some' e
      split at h4
      case isFalse => cases h4
      rename_i hh
      obtain ⟨hz, hpos, hsm⟩ := hh
      have hix' : parts.toList.map (·.1) = List.range len := by simpa using hix
      have hlen : parts.toList.length = len := by have := congrArg List.length hix'; simpa using this
      rw [List.length_map, hlen] at hsm h4
      refine leafP c (mkv := fun b => .own b 0 len) (x := Instr.buildSlice t len (parts.toList.map fun p => (p.1, a.eval p.2)).toArray) (by
        simp only [execOp]
        congr 2
        rw [← List.map_toArray]) (bs_ok (hE.T.at_ hd (by simp)) hd (hE.T et (isO_ne he)) c.heap (by simp [hlen]) (by simp [hlen]) (fun i p hp => ?_) (fun i p q g1 g2 => ?_) h3 hz hpos hsm) h4 hn
      · rw [List.getElem?_map] at hp
        cases hl : parts.toList[i]? with
        | none => rw [hl] at hp; cases hp
        | some o =>
          rw [hl] at hp
          simp only [Option.map_some, Option.some.injEq] at hp
          subst hp
          have h5 : (parts.toList.map (·.1))[i]? = some o.1 := by rw [List.getElem?_map, hl]; rfl
          rw [hix'] at h5
          have hil : i < len := by rw [← hlen]; exact (List.getElem?_eq_some_iff.1 hl).1
          rw [List.getElem?_range hil] at h5
          exact (Option.some.inj h5).symm
      · rw [List.getElem?_map] at g1 g2
        cases hl : parts.toList[i]? with
        | none => rw [hl] at g1; cases g1
        | some o =>
          rw [hl] at g1 g2
          simp only [Option.map_some, Option.some.injEq] at g1 g2
          subst g1 g2
          exact c.ev _
    | _ => rw [hd] at e; cases e
  | makeSlice t l cp =>
    simp only [opD] at e
    cases hd : (E.T t).d with
    | slice et =>
      rw [hd] at e
      simp only at e
      obtain ⟨he, e⟩ := bif_none e
      have hl := c.ev l
      have hcp := c.ev cp
      simp only [mkD] at e
      cases h1 : evA s l with
      | int k n =>
        cases h2 : evA s cp with
        | int k' m =>
          rw [h1, h2] at e
          simp only at e
          rw [h1] at hl
          rw [h2] at hcp
          split at e
          case isFalse => cases e
          rename_i hh
          obtain ⟨rfl, h0, hb, hbn⟩ := hh
          exact leafP c (mkv := fun b => .own b 0 n.toNat) rfl (mkA_ok (hE.T.at_ hd (by simp)) hd (hE.T et (isO_ne he)) c.heap hl.int hcp.int h0 hb hbn) e hn
        | _ => rw [h1, h2] at e; simp at e
      | _ => rw [h1] at e; simp at e
    | _ => rw [hd] at e; cases e
  | call cl =>
    obtain ⟨callee, args, argTypes⟩ := cl
    cases callee with
    | value f =>
      cases f with
      | func g =>
        cases hw : E.way g with
        | psh =>
          simp only [opD, hw] at e
          obtain ⟨rows, h1, h2⟩ := bind_some' e
          obtain ⟨ob, k1, k2, k3, k4, k5⟩ := setD_some h2
          simp only [Option.some.injEq, Prod.mk.injEq] at k5
          obtain ⟨rfl, rfl⟩ := k5
          obtain ⟨q1, q2⟩ := args_rep c args.toList
          obtain ⟨g1, g2⟩ := hE.psh g hw _ h rows h1
          have hfun : (execOp a.eval ⟨dst, .call ⟨.value (.func g), args, argTypes⟩, ty, pos, after, guard⟩).run P w = .ok (.enter g (args.toList.map a.eval).toArray) w := by
            have harr : (#[] ++ args.map a.eval) ++ #[] = (args.toList.map a.eval).toArray := by
              apply Array.ext'
              simp
            simp only [execOp, resolve, Act.eval, Deferred.ofValue, invoke, Sem.run_bind, Sem.run_pure, Result.andThen_ok, harr, run_callFunc g1]
          exact wp_call hfun ((g2 w im ι _ c.heap q1 q2 b ob k1 k2 k3 k4).mono fun e w' ⟨v, he, hp⟩ => ⟨v, he, hn v w' hp⟩)
        | _ => simp [pushSz, hw] at hp
      | _ => simp [pushSz] at hp
    | _ => simp [pushSz] at hp
  | _ => simp [pushSz] at hp
end
section
variable {P : Program} {E : Env} {C : CO} {nt : Nat} {w0 : World} {im0 : Nat → Prop} {ι0 : Nat → Option Nat} {h0 : H} {Q : Exit → Act → World → Prop} {ops : Array Oper}
theorem stepD_ok (hE : EnvOK P E) (hC : CallOK P C) {a : Act} {w : World} {s s' : S} {h h' : H} (c : CS nt w0 im0 ι0 h0 s h a w) {b i : Nat} {o : Oper} (ho : ops[i]? = some o) (hd : ∀ x, o.dst = some x → x < nt)
    (e : stepD E C ops b o s h = some (s', h')) {K : Act → World → Prop} (hK : ∀ a' w', CS nt w0 im0 ι0 h0 s' h' a' w' → K a' w') : wpOp P ops Q i K a w := by
  have run : ∀ (e : (opDV E C b o s h).map (outV o s) = some (s', h')), o.wp P a w K Q := fun e => by
    cases hv : opDV E C b o s h with
    | none => rw [hv] at e; simp at e
    | some r =>
      rw [hv] at e
      simp only [Option.map_some, Option.some.injEq, outV, Prod.mk.injEq] at e
      obtain ⟨rfl, rfl⟩ := e
      obtain ⟨im, ι, c, st⟩ := c
      refine opD_ok hE hC c (a' := r.1) (h' := r.2) (by rw [hv]) fun v w' hf => hK _ _ ?_
      obtain ⟨im', ι', G, hr, s2⟩ := hf
      exact ⟨im', ι', c.put hd G hr s2, st.trans s2⟩
  unfold wpOp
  rw [ho]
  simp only []
  unfold stepD at e
  cases hg : o.guard with
  | none =>
    rw [hg] at e
    have hw : Region.wanted o (yielded ops a.tmps) = true := by simp [Region.wanted, hg]
    rw [if_pos hw]
    exact .inl (run e)
  | some p =>
    obtain ⟨j, want⟩ := p
    rw [hg] at e
    simp only at e
    cases hdj : (ops[j]?).bind (·.dst) with
    | none => rw [hdj] at e; cases e
    | some g =>
      rw [hdj] at e
      simp only at e
      cases hs : gv (gdd ops j) (s g) with
      | some v =>
        rw [hs] at e
        simp only at e
        have hy := yielded_of c hdj hs
        cases hb : v == some want with
        | true =>
          rw [hb] at e
          have hbw : v = some want := by simpa using hb
          have hw : Region.wanted o (yielded ops a.tmps) = true := by simp [Region.wanted, hg, hy, hbw]
          rw [if_pos hw]
          exact .inl (run e)
        | false =>
          rw [hb] at e
          have hw : Region.wanted o (yielded ops a.tmps) = false := by
            have hne : v ≠ some want := by simpa using hb
            simp [Region.wanted, hg, hy, hne]
          rw [if_neg (by rw [hw]; simp)]
          simp only [cond_false, Option.some.injEq, Prod.mk.injEq] at e
          obtain ⟨rfl, rfl⟩ := e
          obtain ⟨im, ι, c, st⟩ := c
          exact hK _ _ ⟨im, ι, c.put hd c.heap (.tup rfl fun i v a hv => by simp at hv) (Stp.refl _ _ _ _), st⟩
      | none => rw [hs] at e; cases e

/-- The empty objects that wait for the pushes. -/
theorem dumm_ok {a : Act} {w : World} {s : S} : ∀ (l : List Nat) {h : H}, CS nt w0 im0 ι0 h0 s h a w → CS nt w0 im0 ι0 h0 s (h ++ l.map fun n => ⟨n, false, []⟩) a w
  | [], h, c => by simpa using c
  | n :: l, h, c => by
    obtain ⟨im, ι, c, st⟩ := c
    obtain ⟨G, s2⟩ := c.heap.pushNone n
    have := dumm_ok l ⟨_, _, c.move G s2, st.trans s2⟩
    simpa using this
end
end Go.Ab

namespace Go.Ab
open Go
variable [Val]
/-! What an operation looks at, and what it changes. -/
def Touch (l : List A) (j : Nat) : Prop := ∃ a ∈ l, idA a = some j
section
variable {E : Env} {C : CO} {h h2 : H}
theorem ldA_loc {agg : Bool} {n : Nat} {p : A} (hh : ∀ j, idA p = some j → h2[j]? = h[j]?) : ldA agg n p h2 = ldA agg n p h := by
  cases p <;> simp only [ldA]
  rw [hh _ rfl]
theorem iadA_loc {sz : Nat} {x i : A} (hh : ∀ j, idA x = some j → h2[j]? = h[j]?) : iadA sz x i h2 = iadA sz x i h := by
  cases x with
  | own id off len => cases i <;> simp only [iadA]; rw [hh _ rfl]
  | _ => cases i <;> rfl
theorem lowA_loc {T : Nat → TI} {t : Nat} {x i : A} (hh : ∀ j, idA x = some j → h2[j]? = h[j]?) : lowA T t x i h2 = lowA T t x i h := by
  unfold lowA
  split
  · rw [iadA_loc hh]
  · rfl
  · rfl
theorem sliA_loc {sz : Nat} {x : A} {lo hi : Option A} (hh : ∀ j, idA x = some j → h2[j]? = h[j]?) : sliA sz x lo hi h2 = sliA sz x lo hi h := by
  cases x with
  | own id off len => simp only [sliA]; rw [hh _ rfl]
  | _ => rfl
theorem rowsA_loc {x : A} (hh : ∀ j, idA x = some j → h2[j]? = h[j]?) : rowsA x h2 = rowsA x h := by
  cases x with
  | own id off len => simp only [rowsA]; rw [hh _ rfl]
  | _ => rfl
theorem mapM_congr {α β : Type} {f g : α → Option β} : ∀ {l : List α}, (∀ a ∈ l, f a = g a) → l.mapM f = l.mapM g
  | [], _ => rfl
  | a :: l, hh => by
    rw [List.mapM_cons, List.mapM_cons, hh a (by simp), mapM_congr fun b hb => hh b (by simp [hb])]
theorem frz_refsD (sl : Bool) : ∀ (n d : Nat) (a : A), refsD 0 d a = true → frz h2 sl n a = frz h sl n a := by
  intro n
  induction n with
  | zero => intro d a ha; cases a <;> first | rfl | (cases d <;> simp [refsD] at ha)
  | succ n ih =>
    intro d a ha
    cases a with
    | own id off len => cases d <;> simp [refsD] at ha
    | agg cs =>
      cases d with
      | zero => cases ha
      | succ d =>
        simp only [frz]
        rw [mapM_congr fun c hc => ih d c (List.all_eq_true.1 ha c hc)]
    | tup cs =>
      cases d with
      | zero => cases ha
      | succ d =>
        simp only [frz]
        rw [mapM_congr fun c hc => ih d c (List.all_eq_true.1 ha c hc)]
    | _ => rfl
theorem frz_refs0 (sl : Bool) (n : Nat) (a : A) (ha : refs 0 a = true) : frz h2 sl n a = frz h sl n a := frz_refsD sl n 8 a ha
theorem shalA_loc {a : A} (hh : ∀ j, idA a = some j → h2[j]? = h[j]?) : shalA h2 a = shalA h a := by
  cases a with
  | own id off len => simp only [shalA]; rw [hh _ rfl]
  | _ => rfl
theorem frz_loc {sl : Bool} {a : A} (hs : shalA h a = true) (hh : ∀ j, idA a = some j → h2[j]? = h[j]?) : frz h2 sl 6 a = frz h sl 6 a := by
  cases a with
  | own id off len =>
    simp only [frz]
    rw [hh _ rfl]
    simp only [shalA] at hs
    cases ho : h[id]? with
    | none => rfl
    | some o =>
      rw [ho] at hs
      simp only [List.all_eq_true] at hs
      simp only []
      split
      · congr 1
        exact mapM_congr fun r hr => mapM_congr fun c hc => frz_refs0 sl 5 c (hs r (List.mem_of_mem_drop hr) c hc)
      · rfl
  | _ => exact frz_refs0 sl 6 _ hs
theorem callP_loc {sl : Bool} {f : FuncId} {args : List A} (hs : args.all (shalA h) = true) (hh : ∀ j, Touch args j → h2[j]? = h[j]?) :
    args.all (shalA h2) = true ∧ callP C sl f args h2 = callP C sl f args h := by
  have each : ∀ a ∈ args, ∀ j, idA a = some j → h2[j]? = h[j]? := fun a ha j hj => hh j ⟨a, ha, hj⟩
  constructor
  · rw [List.all_eq_true] at hs ⊢
    exact fun a ha => by rw [shalA_loc (each a ha)]; exact hs a ha
  · unfold callP
    rw [mapM_congr fun a ha => frz_loc (List.all_eq_true.1 hs a ha) (each a ha)]
end
/-- What an operation does hangs on R alone, and it changes W alone. -/
def Loc {γ : Type} (h h1 : H) (v : γ) (R W : List A) (F : H → Option (γ × H)) : Prop :=
  h1.length = h.length ∧ (∀ j, ¬ Touch W j → h1[j]? = h[j]?) ∧ ∀ h2 : H, h2.length = h.length → (∀ j, Touch R j → h2[j]? = h[j]?) →
    ∃ h3, F h2 = some (v, h3) ∧ h3.length = h.length ∧ (∀ j, Touch W j → h3[j]? = h1[j]?) ∧ ∀ j, ¬ Touch W j → h3[j]? = h2[j]?
theorem Touch.nil {j : Nat} : ¬ Touch [] j := fun ⟨a, ha, _⟩ => by cases ha
theorem Loc.read {γ : Type} {h : H} {v : γ} {R : List A} {F : H → Option (γ × H)} (hF : ∀ h2 : H, (∀ j, Touch R j → h2[j]? = h[j]?) → F h2 = some (v, h2)) : Loc h h v R [] F :=
  ⟨rfl, fun _ _ => rfl, fun h2 hl hr => ⟨h2, hF h2 hr, hl, fun j hj => absurd hj Touch.nil, fun _ _ => rfl⟩⟩
theorem Loc.write {γ : Type} {h : H} {v : γ} {R W : List A} {F : H → Option (γ × H)} {id : Nat} {o : Obj} (hW : ∀ j, Touch W j ↔ j = id) (hid : id < h.length)
    (hF : ∀ h2 : H, h2.length = h.length → (∀ j, Touch R j → h2[j]? = h[j]?) → F h2 = some (v, h2.set id o)) : Loc h (h.set id o) v R W F := by
  refine ⟨by simp, fun j hj => ?_, fun h2 hl hr => ⟨_, hF h2 hl hr, by simp [hl], fun j hj => ?_, fun j hj => ?_⟩⟩
  · have hne : j ≠ id := fun e => hj ((hW j).2 e)
    rw [List.getElem?_set_ne (fun e => hne e.symm)]
  · obtain rfl := (hW j).1 hj
    simp [hid, hl]
  · have hne : j ≠ id := fun e => hj ((hW j).2 e)
    rw [List.getElem?_set_ne (fun e => hne e.symm)]
theorem touch_one {a : A} {id : Nat} (ha : idA a = some id) (j : Nat) : Touch [a] j ↔ j = id := by
  constructor
  · rintro ⟨x, hx, hj⟩
    simp at hx; subst hx
    rw [ha] at hj; exact (Option.some.inj hj).symm
  · rintro rfl; exact ⟨a, by simp, ha⟩
theorem setD_loc {b sz : Nat} {rows : List (List A)} {v v' : A} {h h1 : H} (e : setD b sz rows h (fun h => some (v, h)) = some (v', h1)) :
    Loc h h1 v' [.own b 0 0] [.own b 0 0] (fun h => setD b sz rows h fun h => some (v, h)) := by
  obtain ⟨o, h2, h3, h4, h5, h6⟩ := setD_some e
  simp only [Option.some.injEq, Prod.mk.injEq] at h6
  obtain ⟨rfl, rfl⟩ := h6
  refine Loc.write (touch_one rfl) (List.getElem?_eq_some_iff.1 h2).1 fun k hl hr => ?_
  have : k[b]? = some o := by rw [hr b ⟨_, List.mem_cons_self .., rfl⟩, h2]
  have hb : (Nat.beq o.sz sz && (!o.fz && o.rows.isEmpty)) = true := by subst h3; simp [h4, h5]
  simp only [setD, this, hb, cond_true]
theorem stA_loc {n : Nat} {p x v : A} {h h1 : H} (e : (stA n p x h).bind (fun h => some (v, h)) = some (v, h1)) :
    Loc h h1 v [p] [p] (fun h => (stA n p x h).bind fun h => some (v, h)) := by
  obtain ⟨k, h2, h3⟩ := bind_some' e
  simp only [Option.some.injEq, Prod.mk.injEq, true_and] at h3
  subst h3
  cases p with
  | ptr id ver row off =>
    cases hc : cellsA x with
    | none => simp only [stA, hc] at h2; cases h2
    | some cs =>
      simp only [stA, hc] at h2
      cases ho : h[id]? with
      | none => rw [ho] at h2; cases h2
      | some o =>
        rw [ho] at h2
        simp only at h2
        split at h2
        case isFalse => cases h2
        rename_i hh
        obtain ⟨r, h4, h5⟩ := bind_some' h2
        split at h5
        case isFalse => cases h5
        rename_i hoff
        simp only [Option.some.injEq] at h5
        subst h5
        refine Loc.write (id := id) (touch_one rfl) (List.getElem?_eq_some_iff.1 ho).1 fun k hl hr => ?_
        have : k[id]? = some o := by rw [hr id ⟨_, List.mem_cons_self .., rfl⟩, ho]
        simp only [stA, hc, this, if_pos hh, h4, Option.bind_some, if_pos hoff]
  | _ => simp [stA] at h2
theorem appA_loc {sz bytes : Nat} {x y v : A} {h h1 : H} (hn : isNils x = false) (e : appA sz bytes x y h = some (v, h1)) :
    Loc h h1 v [x, y] [x] (fun h => appA sz bytes x y h) := by
  have e0 := e
  simp only [appA] at e
  obtain ⟨ys, hy, e⟩ := bind_some' e
  split at e
  case isFalse => cases e
  rename_i hh
  cases x with
  | nils => cases hn
  | own id off len =>
    simp only at e
    cases ho : h[id]? with
    | none => rw [ho] at e; cases e
    | some o =>
      rw [ho] at e
      simp only at e
      split at e
      case isFalse => cases e
      rename_i hc
      simp only [Option.some.injEq, Prod.mk.injEq] at e
      obtain ⟨rfl, rfl⟩ := e
      refine Loc.write (id := id) (touch_one rfl) (List.getElem?_eq_some_iff.1 ho).1 fun k hl hr => ?_
      have h5 : k[id]? = some o := by rw [hr id ⟨_, List.mem_cons_self .., rfl⟩, ho]
      have h6 : rowsA y k = some ys := by rw [rowsA_loc (h := h) fun j hj => hr j ⟨y, by simp, hj⟩, hy]
      simp only [appA, h6, Option.bind_some, if_pos hh, h5, if_pos hc]
  | _ => cases e
/-- A read-only call's result is kept. -/
def rdDst (E : Env) (o : Oper) : Bool := match o.op with
  | .call c => match c.callee with
    | .value (.func f) => match E.way f with
      | .rd => o.dst.isSome
      | .keep => false
      | _ => true
    | _ => true
  | _ => true
theorem cls1_W {E : Env} {b : Nat} {s : S} {o : Oper} (h : cls E o.op ≤ 1) : footW E b s o = [] := by
  obtain ⟨dst, op, ty, pos, after, guard⟩ := o
  cases op with
  | call c =>
    obtain ⟨callee, args, argTypes⟩ := c
    cases callee with
    | builtin bi => cases bi <;> first | rfl | simp [cls] at h
    | value f =>
      cases f with
      | func g =>
        simp only [footW]
        cases hw : E.way g with
        | psh => simp [cls, hw] at h
        | _ => rfl
      | _ => rfl
    | _ => rfl
  | _ => first | rfl | simp [cls] at h
theorem cls0_R {E : Env} {b : Nat} {s : S} {o : Oper} (h : cls E o.op = 0) : footR E b s o = [] := by
  obtain ⟨dst, op, ty, pos, after, guard⟩ := o
  cases op with
  | call c =>
    obtain ⟨callee, args, argTypes⟩ := c
    cases callee with
    | builtin bi => cases bi <;> first | rfl | simp [cls] at h
    | value f =>
      cases f with
      | func g => simp only [cls] at h; split at h <;> cases h
      | _ => rfl
    | _ => rfl
  | _ => first | rfl | simp [cls] at h
theorem cls0_opD {E : Env} {C : CO} {β : Type} {b : Nat} {o : Op} {ρ : Operand → A} {h : H} {k : A → H → Option β} (hc : cls E o = 0) : opD E C b o ρ h k = opK E C o ρ h k := by
  cases o with
  | call c =>
    obtain ⟨callee, args, argTypes⟩ := c
    cases callee with
    | builtin bi => cases bi <;> first | rfl | simp [cls] at hc
    | value f =>
      cases f with
      | func g => simp only [cls] at hc; split at hc <;> cases hc
      | _ => simp [cls] at hc
    | _ => simp [cls] at hc
  | _ => first | rfl | simp [cls] at hc
section
variable {P : Program} {E : Env} {C : CO}
theorem cls0_loc {o : Op} {ρ : Operand → A} {h h1 : H} {v : A} (hc : cls E o = 0) (e : opK E C o ρ h (fun v h => some (v, h)) = some (v, h1)) : h1 = h ∧ ∀ h2, opK E C o ρ h2 (fun v h => some (v, h)) = some (v, h2) := by
  have f1 := cls_form (E := E) (C := C) ρ h (fun v h => some (v, h)) (by omega : cls E o ≤ 1)
  rw [f1] at e
  obtain ⟨u, h2, h3⟩ := bind_some' e
  simp only [Option.some.injEq, Prod.mk.injEq] at h3
  obtain ⟨rfl, rfl⟩ := h3
  refine ⟨rfl, fun k => ?_⟩
  rw [cls_form (E := E) (C := C) ρ k (fun v h => some (v, h)) (by omega : cls E o ≤ 1), ← cls_same ρ h k some hc, h2]
  rfl
theorem opD_loc (hE : EnvOK P E) {b : Nat} {o : Oper} {s s1 : S} {h h1 : H} {v : A} (hrd : rdDst E o = true) (hs0 : cls E o.op = 0 ∨ ∀ x ∈ o.op.operands, evA s1 x = evA s x) (hd : ∀ d, o.dst = some d → s1 d = v)
    (e : opDV E C b o s h = some (v, h1)) : Loc h h1 v (footR E b s1 o) (footW E b s1 o) (fun h => opDV E C b o s h) := by
  rcases hs0 with hc0 | hs
  · have e' := e
    simp only [opDV, cls0_opD hc0] at e'
    obtain ⟨rfl, h2⟩ := cls0_loc hc0 e'
    rw [cls1_W (by omega)]
    exact Loc.read fun k _ => by simp only [opDV, cls0_opD hc0]; exact h2 k
  obtain ⟨dst, op, ty, pos, after, guard⟩ := o
  simp only at hs hd
  have zero : ∀ (hc : cls E op = 0) (hD : ∀ h, opDV E C b ⟨dst, op, ty, pos, after, guard⟩ s h = opK E C op (evA s) h (fun v h => some (v, h))) (hW : footW E b s1 ⟨dst, op, ty, pos, after, guard⟩ = []),
      Loc h h1 v (footR E b s1 ⟨dst, op, ty, pos, after, guard⟩) (footW E b s1 ⟨dst, op, ty, pos, after, guard⟩) (fun h => opDV E C b ⟨dst, op, ty, pos, after, guard⟩ s h) := fun hc hD hW => by
    rw [hD] at e
    obtain ⟨rfl, h2⟩ := cls0_loc hc e
    rw [hW]
    exact Loc.read fun k _ => by rw [hD]; exact h2 k
  cases op with
  | alloc t =>
    simp only [opDV, opD] at e
    obtain ⟨h2, h3⟩ := bif_none e
    have := setD_loc h3
    simpa only [opDV, opD, h2, cond_false, alD, footR, footW, pushSz, Option.isSome_some, cond_true] using this
  | box t x =>
    simp only [opDV, opD] at e
    obtain ⟨cs, h2, h3⟩ := bind_some' e
    obtain ⟨h4, h5⟩ := bif_some h3
    have := setD_loc h5
    simpa only [opDV, opD, h2, Option.bind_some, h4, alD, footR, footW, pushSz, Option.isSome_some, cond_true] using this
  | buildSlice t len parts =>
    simp only [opDV, opD] at e
    cases ht : (E.T t).d with
    | slice et =>
      rw [ht] at e
      simp only at e
      obtain ⟨he, e⟩ := bif_none e
      obtain ⟨hix, e⟩ := bif_some e
      simp only [bsD] at e
      obtain ⟨rows, h3, h4⟩ := bind_some' e
      split at h4
      case isFalse => cases h4
      rename_i hh
      have := setD_loc h4
      simpa only [opDV, opD, ht, he, hix, cond_false, cond_true, bsD, h3, Option.bind_some, if_pos hh, footR, footW, pushSz, Option.isSome_some] using this
    | _ => rw [ht] at e; cases e
  | makeSlice t l cp =>
    simp only [opDV, opD] at e
    cases ht : (E.T t).d with
    | slice et =>
      rw [ht] at e
      simp only at e
      obtain ⟨he, e⟩ := bif_none e
      simp only [mkD] at e
      cases h1' : evA s l with
      | int k n =>
        cases h2' : evA s cp with
        | int k' m =>
          rw [h1', h2'] at e
          simp only at e
          split at e
          case isFalse => cases e
          rename_i hh
          have := setD_loc e
          simpa only [opDV, opD, ht, he, cond_false, mkD, h1', h2', if_pos hh, footR, footW, pushSz, Option.isSome_some, cond_true] using this
        | _ => rw [h1', h2'] at e; simp at e
      | _ => rw [h1'] at e; simp at e
    | _ => rw [ht] at e; cases e
  | load t x =>
    have hx : evA s1 x = evA s x := hs x (by simp [Op.operands])
    simp only [opDV, opD, opK] at e
    obtain ⟨h2, h3⟩ := bif_none e
    obtain ⟨u, h4, h5⟩ := bind_some' h3
    simp only [Option.some.injEq, Prod.mk.injEq] at h5
    obtain ⟨rfl, rfl⟩ := h5
    exact Loc.read fun k hr => by
      simp only [opDV, opD, opK, h2, cond_false]
      rw [ldA_loc (h := h) fun j hj => hr j ⟨evA s1 x, by simp [footR], by rw [hx]; exact hj⟩, h4]
      rfl
  | store t p x =>
    have hx : evA s1 p = evA s p := hs p (by simp [Op.operands])
    simp only [opDV, opD, opK] at e
    obtain ⟨h2, h3⟩ := bif_none e
    obtain ⟨k, h4, h5⟩ := bind_some' h3
    simp only [Option.some.injEq, Prod.mk.injEq] at h5
    obtain ⟨rfl, rfl⟩ := h5
    have := stA_loc (v := .dead) h3
    simpa only [opDV, opD, opK, h2, cond_false, footR, footW, hx] using this
  | indexAddr t x i =>
    have hx : evA s1 x = evA s x := hs x (by simp [Op.operands])
    simp only [opDV, opD, opK] at e
    obtain ⟨u, h4, h5⟩ := bind_some' e
    simp only [Option.some.injEq, Prod.mk.injEq] at h5
    obtain ⟨rfl, rfl⟩ := h5
    exact Loc.read fun k hr => by
      simp only [opDV, opD, opK]
      rw [lowA_loc (h := h) fun j hj => hr j ⟨evA s1 x, by simp [footR], by rw [hx]; exact hj⟩, h4]
      rfl
  | slice t x lo hi mx =>
    have hx : evA s1 x = evA s x := hs x (by simp [Op.operands])
    cases mx with
    | some m => simp [opDV, opD, opK] at e
    | none =>
      simp only [opDV, opD, opK] at e
      cases ht : (E.T t).d with
      | slice et =>
        rw [ht] at e
        simp only at e
        obtain ⟨h2, h3⟩ := bif_none e
        obtain ⟨u, h4, h5⟩ := bind_some' h3
        simp only [Option.some.injEq, Prod.mk.injEq] at h5
        obtain ⟨rfl, rfl⟩ := h5
        exact Loc.read fun k hr => by
          simp only [opDV, opD, opK, ht, h2, cond_false]
          rw [sliA_loc (h := h) fun j hj => hr j ⟨evA s1 x, by simp [footR], by rw [hx]; exact hj⟩, h4]
          rfl
      | _ => rw [ht] at e; cases e
  | call c =>
    obtain ⟨callee, args, argTypes⟩ := c
    cases callee with
    | invoke r m => simp [opDV, opD, opK] at e
    | value f =>
      cases f with
      | func g =>
        have ha : args.toList.map (evA s1) = args.toList.map (evA s) := List.map_congr_left fun x hx => hs x (by simp [Op.operands, Call.operands]; first | exact Or.inr (by simpa using hx) | simpa using hx)
        simp only [opDV, opD] at e
        cases hw : E.way g with
        | pure sl =>
          rw [hw] at e
          obtain ⟨h2, h3⟩ := bif_some e
          obtain ⟨u, h4, h5⟩ := bind_some' h3
          simp only [Option.some.injEq, Prod.mk.injEq] at h5
          obtain ⟨rfl, rfl⟩ := h5
          have hW : footW E b s1 ⟨dst, .call ⟨.value (.func g), args, argTypes⟩, ty, pos, after, guard⟩ = [] := by simp only [footW, hw]
          rw [hW]
          exact Loc.read fun k hr => by
            obtain ⟨g1, g2⟩ := callP_loc (C := C) (sl := sl) (f := g) (h2 := k) h2 fun j ⟨a, h6, h7⟩ => hr j ⟨a, by simp only [footR, hw, ha]; exact h6, h7⟩
            simp only [opDV, opD, hw, g1, cond_true, g2, h4]
            rfl
        | rd =>
          rw [hw] at e
          obtain ⟨u, h4, h5⟩ := bind_some' e
          simp only [Option.some.injEq, Prod.mk.injEq] at h5
          obtain ⟨rfl, rfl⟩ := h5
          simp only [rdDst, hw] at hrd
          obtain ⟨d, rfl⟩ := Option.isSome_iff_exists.1 hrd
          have hW : footW E b s1 ⟨some d, .call ⟨.value (.func g), args, argTypes⟩, ty, pos, after, guard⟩ = [] := by simp only [footW, hw]
          rw [hW]
          exact Loc.read fun k hr => by
            have := hE.rdLoc g hw _ h u h4 k fun j ⟨a, h6, h7⟩ => hr j ⟨a, by simp only [footR, hw, ha, hd d rfl]; exact h6, h7⟩
            simp only [opDV, opD, hw, this]
            rfl
        | psh =>
          rw [hw] at e
          obtain ⟨rows, h4, h5⟩ := bind_some' e
          obtain ⟨ob, h6, h7, h8, h9, h10⟩ := setD_some h5
          simp only [Option.some.injEq, Prod.mk.injEq] at h10
          obtain ⟨rfl, rfl⟩ := h10
          have hW : footW E b s1 ⟨dst, .call ⟨.value (.func g), args, argTypes⟩, ty, pos, after, guard⟩ = [.own b 0 0] := by simp only [footW, hw]
          rw [hW]
          refine Loc.write (touch_one rfl) (List.getElem?_eq_some_iff.1 h6).1 fun k hl hr => ?_
          have hk : k[b]? = some ob := by rw [hr b ⟨.own b 0 0, by simp [footR, hw], rfl⟩, h6]
          have hb : (Nat.beq ob.sz (E.pshSz g) && (!ob.fz && ob.rows.isEmpty)) = true := by simp [h7, h8, h9]
          have := hE.pshLoc g hw _ h rows h4 k fun j ⟨a, g6, g7⟩ => hr j ⟨a, by simp only [footR, hw, ha]; exact List.mem_cons_of_mem _ g6, g7⟩
          simp only [opDV, opD, hw, this, Option.bind_some, setD, hk, hb, cond_true]
        | keep => simp [rdDst, hw] at hrd
        | st => rw [hw] at e; cases e
      | _ => simp [opDV, opD] at e
    | builtin bi =>
      cases bi with
      | append =>
        have ha : args.toList.map (evA s1) = args.toList.map (evA s) := List.map_congr_left fun x hx => hs x (by simp [Op.operands, Call.operands]; first | exact Or.inr (by simpa using hx) | simpa using hx)
        simp only [opDV, opD] at e
        cases hl : args.toList with
        | nil => rw [hl] at e; cases e
        | cons x l =>
          rw [hl] at e ha
          simp only at e
          obtain ⟨hn, e⟩ := bif_none e
          simp only [opK, hl] at e
          have hF : ∀ k, opDV E C b ⟨dst, .call ⟨.builtin .append, args, argTypes⟩, ty, pos, after, guard⟩ s k = opK E C (.call ⟨.builtin .append, args, argTypes⟩) (evA s) k (fun v h => some (v, h)) := fun k => by
            simp only [opDV, opD, hl, hn, cond_false]
          cases l with
          | nil => simp at e
          | cons y l =>
            cases l with
            | cons z l => simp at e
            | nil =>
              cases hl2 : argTypes.toList with
              | nil => rw [hl2] at e; simp at e
              | cons t l2 =>
                cases l2 with
                | nil => rw [hl2] at e; simp at e
                | cons t' l3 =>
                  cases l3 with
                  | cons z l => rw [hl2] at e; simp at e
                  | nil =>
                    rw [hl2] at e
                    simp only at e
                    cases ht : (E.T t).d with
                    | slice et =>
                      rw [ht] at e
                      simp only at e
                      obtain ⟨h2, h3⟩ := bif_none e
                      obtain ⟨r, h4, h5⟩ := bind_some' h3
                      simp only [Option.some.injEq, Prod.mk.injEq] at h5
                      obtain ⟨rfl, rfl⟩ := h5
                      have := appA_loc (v := r.1) (h1 := r.2) hn h4
                      simp only [List.map_cons, List.map_nil, List.cons.injEq, and_true] at ha
                      have hfun : (fun k => opDV E C b ⟨dst, .call ⟨.builtin .append, args, argTypes⟩, ty, pos, after, guard⟩ s k) = fun k => appA (E.T et).size (E.T et).bytes (evA s x) (evA s y) k := by
                        funext k
                        rw [hF]
                        simp only [opK, hl, hl2, ht, h2, cond_false]
                        cases appA (E.T et).size (E.T et).bytes (evA s x) (evA s y) k <;> rfl
                      rw [hfun]
                      simpa only [footR, footW, hl, List.map_cons, List.map_nil, ha.1, ha.2] using this
                    | _ => rw [ht] at e; cases e
      | len => exact zero rfl (fun h => rfl) rfl
      | cap => exact zero rfl (fun h => rfl) rfl
      | max => exact zero rfl (fun h => rfl) rfl
      | min => exact zero rfl (fun h => rfl) rfl
      | _ => simp [opDV, opD, opK] at e
  | makeFunc fn first caps => exact zero rfl (fun h => rfl) rfl
  | _ => first
    | exact zero rfl (fun h => rfl) rfl
    | (simp [opDV, opD, opK] at e; done)
end
end Go.Ab

namespace Go.Ab
open Go
variable [Val]
/-- Neighbours that do not touch each other's objects change places. -/
theorem Loc.swap {γ δ : Type} {h h1 h2 : H} {v : γ} {u : δ} {Rx Wx Ry Wy : List A} {Fx : H → Option (γ × H)} {Fy : H → Option (δ × H)} (lx : Loc h h1 v Rx Wx Fx) (ly : Loc h1 h2 u Ry Wy Fy)
    (hxy : ∀ j, Touch Wx j → ¬ Touch Ry j) (hyx : ∀ j, Touch Wy j → ¬ Touch Rx j) (hWx : ∀ j, Touch Wx j → Touch Rx j) : ∃ k, Fy h = some (u, k) ∧ Fx k = some (v, h2) := by
  obtain ⟨a1, a2, a3⟩ := lx
  obtain ⟨b1, b2, b3⟩ := ly
  obtain ⟨k, k1, k2, k3, k4⟩ := b3 h a1.symm fun j hj => (a2 j fun hw => hxy j hw hj).symm
  obtain ⟨h4, m1, m2, m3, m4⟩ := a3 k (by omega) fun j hj => k4 j fun hw => hyx j hw hj
  refine ⟨k, k1, ?_⟩
  have : h4 = h2 := List.ext_getElem? fun j => by
    by_cases hx : Touch Wx j
    · rw [m3 j hx, b2 j fun hy => hyx j hy (hWx j hx)]
    · by_cases hy : Touch Wy j
      · rw [m4 j hx, k3 j hy]
      · rw [m4 j hx, k4 j hy, b2 j hy, a2 j hx]
  rw [← this]; exact m1
section
variable {P : Program} {E : Env} {C : CO} {ops : Array Oper}
theorem footW_R {b : Nat} {s : S} {o : Oper} {j : Nat} (h : Touch (footW E b s o) j) : Touch (footR E b s o) j := by
  obtain ⟨dst, op, ty, pos, after, guard⟩ := o
  cases op with
  | call c =>
    obtain ⟨callee, args, argTypes⟩ := c
    cases callee with
    | builtin bi =>
      cases bi with
      | append =>
        simp only [footW] at h
        simp only [footR]
        cases hl : args.toList with
        | nil => rw [hl] at h; exact absurd h Touch.nil
        | cons x l => rw [hl] at h; obtain ⟨a, ha, hj⟩ := h; simp at ha; exact ⟨a, by simp [ha], hj⟩
      | _ => exact absurd h Touch.nil
    | value f =>
      cases f with
      | func g =>
        simp only [footW] at h
        simp only [footR]
        cases hw : E.way g with
        | psh => rw [hw] at h; obtain ⟨a, ha, hj⟩ := h; simp at ha; exact ⟨a, by simp [ha], hj⟩
        | _ => rw [hw] at h; exact absurd h Touch.nil
      | _ => exact absurd h Touch.nil
    | _ => exact absurd h Touch.nil
  | load t x => exact absurd h (by simp only [footW, pushSz]; exact Touch.nil)
  | indexAddr t x i => exact absurd h (by simp only [footW, pushSz]; exact Touch.nil)
  | slice t x lo hi mx => exact absurd h (by simp only [footW, pushSz]; exact Touch.nil)
  | _ => exact h
theorem opD_congr {β : Type} {b : Nat} {ρ ρ' : Operand → A} (o : Op) (h : H) (k : A → H → Option β) (hρ : ∀ x ∈ o.operands, ρ x = ρ' x) : opD E C b o ρ h k = opD E C b o ρ' h k := by
  cases o with
  | alloc t => rfl
  | box t x => simp only [opD, hρ x (by simp [Op.operands])]
  | buildSlice t len parts =>
    have h2 : (parts.toList.map fun p => ρ p.2) = parts.toList.map fun p => ρ' p.2 := List.map_congr_left fun p hp => by rw [hρ p.2 (by simp only [Op.operands]; simp; exact ⟨p.1, by simpa using hp⟩)]
    simp only [opD, h2]
  | makeSlice t x y => simp only [opD, hρ x (by simp [Op.operands]), hρ y (by simp [Op.operands])]
  | call c =>
    have hk := fun (k : A → H → Option β) => opK_congr (E := E) (C := C) (.call c) h k hρ
    obtain ⟨callee, args, argTypes⟩ := c
    have ha : args.toList.map ρ = args.toList.map ρ' := List.map_congr_left fun x hx => hρ x (by simp [Op.operands, Call.operands]; first | exact Or.inr (by simpa using hx) | (cases callee <;> simp_all))
    cases callee with
    | invoke r m => exact hk k
    | value f =>
      cases f with
      | func g => simp only [opD, ha]
      | _ => rfl
    | builtin bi =>
      cases bi with
      | append =>
        simp only [opD]
        cases hl : args.toList with
        | nil => rfl
        | cons x l =>
          rw [hl] at ha
          simp only [List.map_cons, List.cons.injEq] at ha
          simp only [ha.1, hk]
      | _ => exact hk k
  | _ => exact opK_congr (E := E) (C := C) _ h k hρ
/-- A step looks at R alone and changes W alone. -/
theorem stepD_loc (hE : EnvOK P E) {b : Nat} {o : Oper} {s s' s1 : S} {h h' : H} (hrd : rdDst E o = true) (hs : cls E o.op = 0 ∨ ∀ x ∈ o.op.operands, evA s1 x = evA s x) (hd : ∀ d, o.dst = some d → s1 d = s' d)
    (e : stepD E C ops b o s h = some (s', h')) : (∃ v, s' = put s o.dst v) ∧ Loc h h' s' (footR E b s1 o) (footW E b s1 o) (fun h => stepD E C ops b o s h) := by
  have run : ∀ (e : (opDV E C b o s h).map (outV o s) = some (s', h')), (∃ v, s' = put s o.dst v) ∧ Loc h h' s' (footR E b s1 o) (footW E b s1 o) (fun h => (opDV E C b o s h).map (outV o s)) := fun e => by
    cases hv : opDV E C b o s h with
    | none => rw [hv] at e; simp at e
    | some r =>
      rw [hv] at e
      simp only [Option.map_some, Option.some.injEq, outV, Prod.mk.injEq] at e
      obtain ⟨rfl, rfl⟩ := e
      refine ⟨⟨r.1, rfl⟩, ?_⟩
      obtain ⟨a1, a2, a3⟩ := opD_loc hE (v := r.1) (h1 := r.2) hrd hs (fun d hdd => by
        rw [hd d hdd, hdd]
        simp [put]) hv
      refine ⟨a1, a2, fun k hl hr => ?_⟩
      obtain ⟨h3, m1, m2⟩ := a3 k hl hr
      exact ⟨h3, by simp only [m1, Option.map_some, outV], m2⟩
  unfold stepD at e ⊢
  cases hg : o.guard with
  | none => rw [hg] at e; exact run e
  | some p =>
    obtain ⟨j, want⟩ := p
    rw [hg] at e
    simp only at e ⊢
    cases hdj : (ops[j]?).bind (·.dst) with
    | none => rw [hdj] at e; cases e
    | some g =>
      rw [hdj] at e
      simp only at e ⊢
      cases hsg : gv (gdd ops j) (s g) with
      | some c =>
        rw [hsg] at e
        simp only at e ⊢
        cases hb : c == some want with
        | true => rw [hb] at e; exact run e
        | false =>
          rw [hb] at e
          simp only [cond_false, Option.some.injEq, Prod.mk.injEq] at e
          obtain ⟨rfl, rfl⟩ := e
          exact ⟨⟨.tup [], rfl⟩, rfl, fun _ _ => rfl, fun k hl hr => ⟨k, rfl, hl, fun j hj => hr j (footW_R hj), fun _ _ => rfl⟩⟩
      | none => rw [hsg] at e; cases e
theorem stepD_put {b : Nat} {o : Oper} {s : S} {h : H} {d : Option Nat} {v : A} (hn : ∀ t, d = some t → t ∉ o.looksAt ops) (hd : ∀ t, d = some t → o.dst ≠ some t) :
    stepD E C ops b o (put s d v) h = (stepD E C ops b o s h).map fun r => (put r.1 d v, r.2) := by
  have hop : opDV E C b o (put s d v) h = opDV E C b o s h := opD_congr _ _ _ fun x hx => evA_put fun t ht => (looks_operand (hn t ht)).1 x hx
  have hout : ∀ r, outV o (put s d v) r = (put (outV o s r).1 d v, (outV o s r).2) := fun r => by
    simp only [outV]; rw [put_comm hd]
  unfold stepD
  cases hg : o.guard with
  | none => simp only [hop, Option.map_map]; congr 1; funext r; exact hout r
  | some p =>
    obtain ⟨j, want⟩ := p
    simp only []
    cases hdj : (ops[j]?).bind (·.dst) with
    | none => rfl
    | some g =>
      simp only []
      have hsg : put s d v g = s g := by
        cases d with
        | none => rfl
        | some d =>
          have hne : g ≠ d := fun e => (looks_operand (hn d rfl)).2 j want hg (by rw [hdj, e])
          simp only [put]
          have hb : Nat.beq g d = false := by
            rw [← Bool.not_eq_true]; intro hh; exact hne (Nat.eq_of_beq_eq_true hh)
          rw [hb]; rfl
      rw [hsg]
      cases gv (gdd ops j) (s g) with
      | some c =>
        simp only []
        cases c == some want with
        | true => simp only [cond_true, hop, Option.map_map]; congr 1; funext r; exact hout r
        | false => simp only [cond_false, Option.map_some]; rw [put_comm hd]
      | none => rfl
theorem stepD_form {b : Nat} {o : Oper} {s s' : S} {h h' : H} (e : stepD E C ops b o s h = some (s', h')) : ∃ v, s' = put s o.dst v := by
  have run : ∀ (e : (opDV E C b o s h).map (outV o s) = some (s', h')), ∃ v, s' = put s o.dst v := fun e => by
    cases hv : opDV E C b o s h with
    | none => rw [hv] at e; simp at e
    | some r =>
      rw [hv] at e
      simp only [Option.map_some, Option.some.injEq, outV, Prod.mk.injEq] at e
      exact ⟨r.1, e.1.symm⟩
  unfold stepD at e
  split at e
  · exact run e
  · split at e
    · cases e
    · split at e
      · cases hb : (_ : Option Bool) == _ with
        | true => rw [hb] at e; exact run e
        | false =>
          rw [hb] at e
          simp only [cond_false, Option.some.injEq, Prod.mk.injEq] at e
          exact ⟨.tup [], e.1.symm⟩
      · cases e
theorem put_at {s : S} {d : Nat} {v : A} : put s (some d) v d = v := by simp [put]
theorem put_off {s : S} {e : Option Nat} {d : Nat} {v : A} (h : e ≠ some d) : put s e v d = s d := by
  cases e with
  | none => rfl
  | some e =>
    have hne : d ≠ e := fun hh => h (by rw [hh])
    simp only [put]
    have hb : Nat.beq d e = false := by
      rw [← Bool.not_eq_true]; intro hh; exact hne (Nat.eq_of_beq_eq_true hh)
    rw [hb]; rfl
/-- Two steps change places. -/
theorem swapD (hE : EnvOK P E) {bx bz : Nat} {x z : Oper} {s s1 s2 t : S} {h h1 h2 : H} (hap : x.apart ops z = true) (hrx : rdDst E x = true) (hrz : rdDst E z = true)
    (hsx : cls E x.op = 0 ∨ ∀ q ∈ x.op.operands, evA t q = evA s q) (hsz : cls E z.op = 0 ∨ ∀ q ∈ z.op.operands, evA t q = evA s q) (hdx : ∀ d, x.dst = some d → t d = s2 d) (hdz : ∀ d, z.dst = some d → t d = s2 d)
    (hxz : ∀ j, Touch (footW E bx t x) j → ¬ Touch (footR E bz t z) j) (hzx : ∀ j, Touch (footW E bz t z) j → ¬ Touch (footR E bx t x) j)
    (e1 : stepD E C ops bx x s h = some (s1, h1)) (e2 : stepD E C ops bz z s1 h1 = some (s2, h2)) :
    ∃ u k, stepD E C ops bz z s h = some (u, k) ∧ stepD E C ops bx x u k = some (s2, h2) := by
  obtain ⟨a1, a2, a3⟩ := Oper.apart_spec hap
  obtain ⟨v, rfl⟩ := stepD_form e1
  have hz : ∀ k, stepD E C ops bz z (put s x.dst v) k = (stepD E C ops bz z s k).map fun r => (put r.1 x.dst v, r.2) := fun k => stepD_put (fun t ht => a1 t ht) (fun t ht => a2 t ht)
  rw [hz] at e2
  cases ez : stepD E C ops bz z s h1 with
  | none => rw [ez] at e2; simp at e2
  | some r =>
    rw [ez] at e2
    simp only [Option.map_some, Option.some.injEq, Prod.mk.injEq] at e2
    obtain ⟨rfl, rfl⟩ := e2
    obtain ⟨r1, r2⟩ := r
    simp only at ez hdx hdz ⊢
    obtain ⟨u, rfl⟩ := stepD_form ez
    obtain ⟨_, lx⟩ := stepD_loc (s1 := t) hE hrx hsx (fun d hd => by rw [hdx d hd, hd, put_at, put_at]) e1
    obtain ⟨_, lz⟩ := stepD_loc (s1 := t) hE hrz hsz (fun d hd => by rw [hdz d hd, put_off (fun hx => a2 d hx hd)]) ez
    obtain ⟨k, k1, k2⟩ := Loc.swap lx lz hxz hzx fun j hj => footW_R hj
    refine ⟨_, k, k1, ?_⟩
    rw [stepD_put (fun t ht => a3 t ht) (fun t ht hh => a2 t hh ht), k2]
    simp only [Option.map_some]
    rw [put_comm fun t ht => a2 t ht]
end
end Go.Ab

namespace Go.Ab
open Go
variable [Val]
/-! A call whose result's objects come along, and what may be put behind it. -/
def isK (E : Env) : Op → Bool
  | .call c => match c.callee with
    | .value (.func f) => match E.way f with | .keep => true | _ => false
    | _ => false
  | _ => false
def movB (E : Env) (o : Op) : Bool := Nat.beq (cls E o) 0 || (match o with | .load .. | .indexAddr .. | .alloc .. | .box .. | .buildSlice .. => true | _ => false)
def KOK (E : Env) (ops : Array Oper) (p q : Oper) : Prop := p.apart ops q = true ∧ ((isK E q.op = true ∧ movB E p.op = true) ∨ (isK E p.op = true ∧ cls E q.op = 0))
/-- What is frozen here is there, too. -/
def FzSub (h1 h : H) : Prop := ∀ (id : Nat) (o : Obj), h1[id]? = some o → o.fz = true → h[id]? = some o
theorem FzSub.refl (h : H) : FzSub h h := fun _ _ h _ => h
theorem mapM_sub {α β : Type} {f g : α → Option β} : ∀ {l : List α} {r : List β}, (∀ a ∈ l, ∀ v, f a = some v → g a = some v) → l.mapM f = some r → l.mapM g = some r
  | [], r, _, e => by simpa using e
  | a :: l, r, h, e => by
    simp only [List.mapM_cons, Option.bind_eq_bind, Option.pure_def] at e ⊢
    obtain ⟨x, h1, e⟩ := bind_some' e
    obtain ⟨y, h2, e⟩ := bind_some' e
    rw [h a (by simp) x h1, Option.bind_some, mapM_sub (fun a ha => h a (by simp [ha])) h2]
    exact e
theorem frz_fzsub {h h1 : H} (hs : FzSub h1 h) : ∀ (n : Nat) (a v : A), frz h1 true n a = some v → frz h true n a = some v
  | 0, a, v, e => by cases a <;> first | exact e | cases e
  | n + 1, a, v, e => by
    cases a with
    | own id off len =>
      simp only [frz] at e ⊢
      cases ho : h1[id]? with
      | none => rw [ho] at e; cases e
      | some o =>
        rw [ho] at e
        simp only at e
        split at e
        case isFalse => cases e
        rename_i hh
        rw [hs id o ho (hh.2 trivial)]
        simp only
        rw [if_pos hh]
        cases hm : (o.rows.drop off).mapM fun (r : List A) => r.mapM (frz h1 true n) with
        | none => rw [hm] at e; cases e
        | some rs =>
          rw [hm] at e
          rw [mapM_sub (g := fun (r : List A) => r.mapM (frz h true n)) (fun r _ v hv => mapM_sub (fun a _ v hv => frz_fzsub hs n a v hv) hv) hm]
          exact e
    | agg cs =>
      simp only [frz] at e ⊢
      cases hm : cs.mapM (frz h1 true n) with
      | none => rw [hm] at e; cases e
      | some rs => rw [hm] at e; rw [mapM_sub (fun a _ v hv => frz_fzsub hs n a v hv) hm]; exact e
    | tup cs =>
      simp only [frz] at e ⊢
      cases hm : cs.mapM (frz h1 true n) with
      | none => rw [hm] at e; cases e
      | some rs => rw [hm] at e; rw [mapM_sub (fun a _ v hv => frz_fzsub hs n a v hv) hm]; exact e
    | _ => exact e
theorem get_app {h os : H} {id : Nat} {o : Obj} (ho : h[id]? = some o) : (h ++ os)[id]? = some o := by
  rw [List.getElem?_append_left (List.getElem?_eq_some_iff.1 ho).1]; exact ho
theorem ldA_push {agg : Bool} {n : Nat} {p v : A} {h os : H} (e : ldA agg n p h = some v) : ldA agg n p (h ++ os) = some v := by
  cases p with
  | ptr id ver row off =>
    simp only [ldA] at e ⊢
    cases ho : h[id]? with
    | none => rw [ho] at e; cases e
    | some o => rw [ho] at e; rw [get_app ho]; exact e
  | _ => exact e
theorem iadA_push {sz : Nat} {x i v : A} {h os : H} (e : iadA sz x i h = some v) : iadA sz x i (h ++ os) = some v := by
  cases x with
  | own id off len =>
    cases i with
    | int k n =>
      simp only [iadA] at e ⊢
      cases ho : h[id]? with
      | none => rw [ho] at e; cases e
      | some o => rw [ho] at e; rw [get_app ho]; exact e
    | _ => exact e
  | _ => cases i <;> exact e
theorem lowA_push {T : Nat → TI} {t : Nat} {x i v : A} {h os : H} (e : lowA T t x i h = some v) : lowA T t x i (h ++ os) = some v := by
  unfold lowA at e ⊢
  split at e
  · obtain ⟨h1, h2⟩ := bif_none e
    simp only [h1, cond_false]; exact iadA_push h2
  · exact e
  · cases e
theorem setD_push {b sz : Nat} {rows : List (List A)} {v v' : A} {h h1 : H} (e : setD b sz rows h (fun h => some (v, h)) = some (v', h1)) :
    h1.length = h.length ∧ FzSub h1 h ∧ ∀ os, setD b sz rows (h ++ os) (fun h => some (v, h)) = some (v', h1 ++ os) := by
  obtain ⟨o, h2, h3, h4, h5, h6⟩ := setD_some e
  simp only [Option.some.injEq, Prod.mk.injEq] at h6
  obtain ⟨rfl, rfl⟩ := h6
  refine ⟨by simp, fun id o' ho' hf => ?_, fun os => ?_⟩
  · rw [List.getElem?_set] at ho'
    split at ho'
    · split at ho'
      · simp only [Option.some.injEq] at ho'; subst ho'; cases hf
      · cases ho'
    · exact ho'
  · have hb : (Nat.beq o.sz sz && (!o.fz && o.rows.isEmpty)) = true := by subst h3; simp [h4, h5]
    simp only [setD, get_app h2, hb, cond_true]
    rw [List.set_append_left _ _ (List.getElem?_eq_some_iff.1 h2).1]
section
variable {P : Program} {E : Env} {C : CO} {ops : Array Oper}
/-- What may stand ahead of such a call. -/
theorem movOp {b : Nat} {o : Oper} {s : S} {h h1 : H} {v : A} (hm : movB E o.op = true) (e : opDV E C b o s h = some (v, h1)) :
    h1.length = h.length ∧ FzSub h1 h ∧ ∀ os, opDV E C b o s (h ++ os) = some (v, h1 ++ os) := by
  cases hc : Nat.beq (cls E o.op) 0 with
  | true =>
    have h0 := Nat.eq_of_beq_eq_true hc
    simp only [opDV, cls0_opD h0] at e
    obtain ⟨rfl, h2⟩ := cls0_loc h0 e
    exact ⟨rfl, .refl _, fun os => by simp only [opDV, cls0_opD h0]; exact h2 _⟩
  | false =>
    obtain ⟨dst, op, ty, pos, after, guard⟩ := o
    simp only [movB, hc, Bool.false_or] at hm
    simp only at hc
    cases op with
    | load t x =>
      simp only [opDV, opD, opK] at e ⊢
      obtain ⟨h2, h3⟩ := bif_none e
      obtain ⟨u, h4, h5⟩ := bind_some' h3
      simp only [Option.some.injEq, Prod.mk.injEq] at h5
      obtain ⟨rfl, rfl⟩ := h5
      exact ⟨rfl, .refl _, fun os => by simp only [h2, cond_false, ldA_push h4, Option.bind_some]⟩
    | indexAddr t x i =>
      simp only [opDV, opD, opK] at e ⊢
      obtain ⟨u, h4, h5⟩ := bind_some' e
      simp only [Option.some.injEq, Prod.mk.injEq] at h5
      obtain ⟨rfl, rfl⟩ := h5
      exact ⟨rfl, .refl _, fun os => by simp only [lowA_push h4, Option.bind_some]⟩
    | alloc t =>
      simp only [opDV, opD] at e ⊢
      obtain ⟨h2, h3⟩ := bif_none e
      obtain ⟨g1, g2, g3⟩ := setD_push h3
      exact ⟨g1, g2, fun os => by simp only [h2, cond_false]; exact g3 os⟩
    | box t x =>
      simp only [opDV, opD] at e ⊢
      obtain ⟨cs, h2, h3⟩ := bind_some' e
      obtain ⟨h4, h5⟩ := bif_some h3
      obtain ⟨g1, g2, g3⟩ := setD_push h5
      exact ⟨g1, g2, fun os => by simp only [h2, Option.bind_some, h4, cond_true]; exact g3 os⟩
    | buildSlice t len parts =>
      simp only [opDV, opD] at e ⊢
      cases ht : (E.T t).d with
      | slice et =>
        rw [ht] at e
        simp only at e ⊢
        obtain ⟨he, e⟩ := bif_none e
        obtain ⟨hix, e⟩ := bif_some e
        simp only [bsD] at e
        obtain ⟨rows, h3, h4⟩ := bind_some' e
        split at h4
        case isFalse => cases h4
        rename_i hh
        obtain ⟨g1, g2, g3⟩ := setD_push h4
        exact ⟨g1, g2, fun os => by simp only [he, hix, cond_false, cond_true, bsD, h3, Option.bind_some, if_pos hh]; exact g3 os⟩
      | _ => rw [ht] at e; cases e
    | _ => cases hm
theorem keepOp {b : Nat} {o : Oper} {s : S} {h h1 h2 : H} {v : A} (hk : isK E o.op = true) (hl : h1.length = h.length) (hs : FzSub h1 h) (e : opDV E C b o s h1 = some (v, h2)) :
    ∃ os, h2 = h1 ++ os ∧ opDV E C b o s h = some (v, h ++ os) := by
  obtain ⟨dst, op, ty, pos, after, guard⟩ := o
  cases op with
  | call c =>
    obtain ⟨callee, args, argTypes⟩ := c
    cases callee with
    | value f =>
      cases f with
      | func g =>
        cases hw : E.way g with
        | keep =>
          simp only [opDV, opD, hw] at e ⊢
          obtain ⟨r, h3, h4⟩ := bind_some' e
          simp only [Option.some.injEq, Prod.mk.injEq] at h4
          obtain ⟨rfl, rfl⟩ := h4
          unfold callK at h3 ⊢
          obtain ⟨as, h5, h6⟩ := bind_some' h3
          obtain ⟨q, h7, h8⟩ := bind_some' h6
          rw [mapM_sub (fun a _ v hv => frz_fzsub hs 6 a v hv) h5, Option.bind_some, h7, Option.bind_some]
          rw [hl] at h8
          cases hg : gcR h.length q with
          | none => rw [hg] at h8; cases h8
          | some z =>
            rw [hg] at h8
            simp only [Option.map_some, Option.some.injEq] at h8
            subst h8
            exact ⟨z.2, rfl, rfl⟩
        | _ => simp [isK, hw] at hk
      | _ => cases hk
    | _ => cases hk
  | _ => cases hk
/-- The same of steps, their guards asked. -/
theorem movStep {b : Nat} {o : Oper} {s s1 : S} {h h1 : H} (hm : movB E o.op = true) (e : stepD E C ops b o s h = some (s1, h1)) :
    h1.length = h.length ∧ FzSub h1 h ∧ ∀ os, stepD E C ops b o s (h ++ os) = some (s1, h1 ++ os) := by
  have run : ∀ (e : (opDV E C b o s h).map (outV o s) = some (s1, h1)), h1.length = h.length ∧ FzSub h1 h ∧ ∀ os, (opDV E C b o s (h ++ os)).map (outV o s) = some (s1, h1 ++ os) := fun e => by
    cases hv : opDV E C b o s h with
    | none => rw [hv] at e; simp at e
    | some r =>
      rw [hv] at e
      simp only [Option.map_some, Option.some.injEq, outV, Prod.mk.injEq] at e
      obtain ⟨rfl, rfl⟩ := e
      obtain ⟨g1, g2, g3⟩ := movOp hm hv
      exact ⟨g1, g2, fun os => by rw [g3 os]; rfl⟩
  unfold stepD at e ⊢
  cases hg : o.guard with
  | none => rw [hg] at e; exact run e
  | some p =>
    obtain ⟨j, want⟩ := p
    rw [hg] at e
    simp only at e ⊢
    cases hdj : (ops[j]?).bind (·.dst) with
    | none => rw [hdj] at e; cases e
    | some g =>
      rw [hdj] at e
      simp only at e ⊢
      cases hsg : gv (gdd ops j) (s g) with
      | some c =>
        rw [hsg] at e
        simp only at e ⊢
        cases hb : c == some want with
        | true => rw [hb] at e; exact run e
        | false =>
          rw [hb] at e
          simp only [cond_false, Option.some.injEq, Prod.mk.injEq] at e
          obtain ⟨rfl, rfl⟩ := e
          exact ⟨rfl, .refl _, fun os => rfl⟩
      | none => rw [hsg] at e; cases e
theorem keepStep {b : Nat} {o : Oper} {s s2 : S} {h h1 h2 : H} (hk : isK E o.op = true) (hl : h1.length = h.length) (hs : FzSub h1 h) (e : stepD E C ops b o s h1 = some (s2, h2)) :
    ∃ os, h2 = h1 ++ os ∧ stepD E C ops b o s h = some (s2, h ++ os) := by
  have run : ∀ (e : (opDV E C b o s h1).map (outV o s) = some (s2, h2)), ∃ os, h2 = h1 ++ os ∧ (opDV E C b o s h).map (outV o s) = some (s2, h ++ os) := fun e => by
    cases hv : opDV E C b o s h1 with
    | none => rw [hv] at e; simp at e
    | some r =>
      rw [hv] at e
      simp only [Option.map_some, Option.some.injEq, outV, Prod.mk.injEq] at e
      obtain ⟨rfl, rfl⟩ := e
      obtain ⟨os, g1, g2⟩ := keepOp hk hl hs hv
      exact ⟨os, g1, by rw [g2]; rfl⟩
  unfold stepD at e ⊢
  cases hg : o.guard with
  | none => rw [hg] at e; exact run e
  | some p =>
    obtain ⟨j, want⟩ := p
    rw [hg] at e
    simp only at e ⊢
    cases hdj : (ops[j]?).bind (·.dst) with
    | none => rw [hdj] at e; cases e
    | some g =>
      rw [hdj] at e
      simp only at e ⊢
      cases hsg : gv (gdd ops j) (s g) with
      | some c =>
        rw [hsg] at e
        simp only at e ⊢
        cases hb : c == some want with
        | true => rw [hb] at e; exact run e
        | false =>
          rw [hb] at e
          simp only [cond_false, Option.some.injEq, Prod.mk.injEq] at e
          obtain ⟨rfl, rfl⟩ := e
          exact ⟨[], by simp, by simp⟩
      | none => rw [hsg] at e; cases e
theorem zeroStep {b : Nat} {o : Oper} {s s1 : S} {h h1 : H} (hc : cls E o.op = 0) (e : stepD E C ops b o s h = some (s1, h1)) : h1 = h ∧ ∀ k, stepD E C ops b o s k = some (s1, k) := by
  have run : ∀ (e : (opDV E C b o s h).map (outV o s) = some (s1, h1)), h1 = h ∧ ∀ k, (opDV E C b o s k).map (outV o s) = some (s1, k) := fun e => by
    cases hv : opDV E C b o s h with
    | none => rw [hv] at e; simp at e
    | some r =>
      rw [hv] at e
      simp only [Option.map_some, Option.some.injEq, outV, Prod.mk.injEq] at e
      obtain ⟨rfl, rfl⟩ := e
      obtain ⟨r1, r2⟩ := r
      simp only [opDV, cls0_opD hc] at hv ⊢
      obtain ⟨rfl, h2⟩ := cls0_loc hc hv
      exact ⟨rfl, fun k => by rw [h2 k]; rfl⟩
  unfold stepD at e ⊢
  cases hg : o.guard with
  | none => rw [hg] at e; exact run e
  | some p =>
    obtain ⟨j, want⟩ := p
    rw [hg] at e
    simp only at e ⊢
    cases hdj : (ops[j]?).bind (·.dst) with
    | none => rw [hdj] at e; cases e
    | some g =>
      rw [hdj] at e
      simp only at e ⊢
      cases hsg : gv (gdd ops j) (s g) with
      | some c =>
        rw [hsg] at e
        simp only at e ⊢
        cases hb : c == some want with
        | true => rw [hb] at e; exact run e
        | false =>
          rw [hb] at e
          simp only [cond_false, Option.some.injEq, Prod.mk.injEq] at e
          obtain ⟨rfl, rfl⟩ := e
          exact ⟨rfl, fun k => rfl⟩
      | none => rw [hsg] at e; cases e
theorem swapK {bx bz : Nat} {x z : Oper} {s s1 s2 : S} {h h1 h2 : H} (hk : KOK E ops x z) (e1 : stepD E C ops bx x s h = some (s1, h1)) (e2 : stepD E C ops bz z s1 h1 = some (s2, h2)) :
    ∃ u k, stepD E C ops bz z s h = some (u, k) ∧ stepD E C ops bx x u k = some (s2, h2) := by
  obtain ⟨hap, hk⟩ := hk
  obtain ⟨a1, a2, a3⟩ := Oper.apart_spec hap
  obtain ⟨v, rfl⟩ := stepD_form e1
  have hz : ∀ k, stepD E C ops bz z (put s x.dst v) k = (stepD E C ops bz z s k).map fun r => (put r.1 x.dst v, r.2) := fun k => stepD_put (fun t ht => a1 t ht) (fun t ht => a2 t ht)
  rw [hz] at e2
  cases ez : stepD E C ops bz z s h1 with
  | none => rw [ez] at e2; simp at e2
  | some r =>
    rw [ez] at e2
    simp only [Option.map_some, Option.some.injEq, Prod.mk.injEq] at e2
    obtain ⟨rfl, rfl⟩ := e2
    obtain ⟨r1, r2⟩ := r
    obtain ⟨u, rfl⟩ := stepD_form ez
    have hx : ∀ k, stepD E C ops bx x (put s z.dst u) k = (stepD E C ops bx x s k).map fun r => (put r.1 z.dst u, r.2) := fun k => stepD_put (fun t ht => a3 t ht) (fun t ht hh => a2 t hh ht)
    rcases hk with ⟨k1, k2⟩ | ⟨k1, k2⟩
    · obtain ⟨g1, g2, g3⟩ := movStep k2 e1
      obtain ⟨os, rfl, g5⟩ := keepStep k1 g1 g2 ez
      refine ⟨_, _, g5, ?_⟩
      rw [hx, g3 os]
      simp only [Option.map_some]
      rw [put_comm fun t ht => a2 t ht]
    · obtain ⟨rfl, g2⟩ := zeroStep k2 ez
      refine ⟨_, _, g2 h, ?_⟩
      rw [hx, e1]
      simp only [Option.map_some]
      rw [put_comm fun t ht => a2 t ht]
end
end Go.Ab

namespace Go.Ab
open Go
variable [Val]
section
variable {P : Program} {E : Env} {C : CO} {ops : Array Oper}
/-- No operation of the list writes slot d. -/
def NoWr (ops : Array Oper) (l : List Nat) (d : Nat) : Prop := ∀ y ∈ l, ∀ o, ops[y]? = some o → o.dst ≠ some d
theorem foldD_kept {b : Nat} : ∀ (l : List Nat) {s t : S} {h h' : H} {d : Nat}, NoWr ops l d → foldD E C ops b l s h = some (t, h') → t d = s d
  | [], s, t, h, h', d, _, e => by simp only [foldD, Option.some.injEq, Prod.mk.injEq] at e; rw [e.1]
  | i :: l, s, t, h, h', d, hn, e => by
    simp only [foldD] at e
    obtain ⟨o, ho, e⟩ := bind_some' e
    obtain ⟨r, hr, e⟩ := bind_some' e
    rw [foldD_kept l (fun y hy => hn y (by simp [hy])) e]
    obtain ⟨r1, r2⟩ := r
    obtain ⟨v, rfl⟩ := stepD_form hr
    exact put_off (hn i (by simp) o ho)
theorem evA_kept {s t : S} {q : Operand} (h : ∀ d, q = .tmp d → t d = s d) : evA t q = evA s q := by
  cases q with
  | tmp d => exact h d rfl
  | _ => rfl
/-- What is asked of two operations that may change places, the slots being t at the region's end. -/
structure PairOK (E : Env) (ops : Array Oper) (b : Nat) (t : S) (x z : Nat) (p q : Oper) : Prop where
  ap : p.apart ops q = true
  rx : rdDst E p = true
  rz : rdDst E q = true
  xz : ∀ j, Touch (footW E (b + rankP E ops x) t p) j → ¬ Touch (footR E (b + rankP E ops z) t q) j
  zx : ∀ j, Touch (footW E (b + rankP E ops z) t q) j → ¬ Touch (footR E (b + rankP E ops x) t p) j
/-- Two operations may change places. -/
def Swp (E : Env) (ops : Array Oper) (b : Nat) (t : S) (x z : Nat) (p q : Oper) : Prop := PairOK E ops b t x z p q ∨ KOK E ops p q
theorem Swp.ap {E : Env} {ops : Array Oper} {b : Nat} {t : S} {x z : Nat} {p q : Oper} : Swp E ops b t x z p q → p.apart ops q = true
  | .inl h => h.ap
  | .inr h => h.1
/-- Operations in this order: the later one does not write what the earlier one looks at or gives. -/
def Later (E : Env) (ops : Array Oper) (x y : Nat) : Prop := ∀ p q, ops[x]? = some p → ops[y]? = some q → ∀ d, q.dst = some d → (cls E p.op = 0 ∨ ∀ r ∈ p.op.operands, r ≠ .tmp d) ∧ p.dst ≠ some d
def Self (ops : Array Oper) (x : Nat) : Prop := ∀ p, ops[x]? = some p → ∀ d, p.dst = some d → ∀ r ∈ p.op.operands, r ≠ .tmp d
theorem frontD (hE : EnvOK P E) {b : Nat} : ∀ (X : List Nat) (i : Nat) (o : Oper) (Y : List Nat) (s : S) (h : H) (t : S) (h' : H), ops[i]? = some o → (X ++ i :: Y).Pairwise (Later E ops) → (∀ x ∈ X ++ i :: Y, Self ops x) →
    (∀ x ∈ X, ∀ p, ops[x]? = some p → Swp E ops b t x i p o) → foldD E C ops b (X ++ i :: Y) s h = some (t, h') → foldD E C ops b (i :: (X ++ Y)) s h = some (t, h') := by
  intro X
  induction X with
  | nil => intro i o Y s h t h' _ _ _ _ e; exact e
  | cons x X ih =>
    intro i o Y s h t h' ho hp hself hc e
    have e0 := e
    simp only [List.cons_append, foldD] at e
    obtain ⟨p, hpx, e⟩ := bind_some' e
    obtain ⟨r1, h1, e⟩ := bind_some' e
    simp only [List.cons_append, List.pairwise_cons] at hp
    obtain ⟨hx, hp⟩ := hp
    have := ih i o Y r1.1 r1.2 t h' ho hp (fun y hy => hself y (by simp at hy ⊢; right; exact hy)) (fun y hy => hc y (by simp [hy])) e
    have e1 := this
    simp only [foldD, ho, Option.bind_some] at this
    obtain ⟨r2, h2, e2⟩ := bind_some' this
    have ap := (hc x (by simp) p hpx).ap
    obtain ⟨a1, a2, a3⟩ := Oper.apart_spec ap
    -- what the rest does not write
    have nx : ∀ d, (cls E p.op ≠ 0 ∧ ∃ r ∈ p.op.operands, r = .tmp d) ∨ p.dst = some d → NoWr ops (X ++ i :: Y) d := fun d hd y hy q hq hqd => by
      have := hx y hy p q hpx hq d hqd
      rcases hd with ⟨hc0, r, hr, rfl⟩ | hd
      · exact this.1.resolve_left hc0 _ hr rfl
      · exact this.2 hd
    have ni : ∀ d, (cls E o.op ≠ 0 ∧ ∃ r ∈ o.op.operands, r = .tmp d) ∨ o.dst = some d → NoWr ops (X ++ Y) d := fun d hd y hy q hq hqd => by
      rcases List.mem_append.1 hy with hy | hy
      · have ap' := (hc y (by simp [hy]) q hq).ap
        obtain ⟨b1, b2, b3⟩ := Oper.apart_spec ap'
        rcases hd with ⟨hc0, r, hr, rfl⟩ | hd
        · exact (looks_operand (ops := ops) (b1 d hqd)).1 _ hr rfl
        · exact b2 d hqd hd
      · have hpp := (List.pairwise_append.1 hp).2.1
        have := (List.pairwise_cons.1 hpp).1 y hy o q ho hq d hqd
        rcases hd with ⟨hc0, r, hr, rfl⟩ | hd
        · exact this.1.resolve_left hc0 _ hr rfl
        · exact this.2 hd
    have sub : ∀ d, NoWr ops (X ++ i :: Y) d → NoWr ops (X ++ Y) d := fun d hn y hy => hn y (by simp at hy ⊢; rcases hy with hy | hy <;> simp [hy])
    obtain ⟨v1, hv1⟩ : ∃ v, r1.1 = put s p.dst v := stepD_form (h' := r1.2) h1
    obtain ⟨v2, hv2⟩ : ∃ v, r2.1 = put r1.1 o.dst v := stepD_form (h' := r2.2) h2
    rcases hc x (by simp) p hpx with ⟨_, rx, rz, xz, zx⟩ | hk
    rotate_left
    · obtain ⟨u, k, g1, g2⟩ := swapK hk (s1 := r1.1) (h1 := r1.2) (s2 := r2.1) (h2 := r2.2) h1 h2
      simp only [foldD, List.cons_append, ho, Option.bind_some, g1, hpx, g2]
      exact e2
    obtain ⟨u, k, g1, g2⟩ := swapD (t := t) hE ap rx rz (s1 := r1.1) (h1 := r1.2) (s2 := r2.1) (h2 := r2.2)
      ((Nat.eq_zero_or_pos (cls E p.op)).imp id fun hc0 q hq => evA_kept fun d hd => by
        rw [foldD_kept _ (nx d (.inl ⟨Nat.pos_iff_ne_zero.1 hc0, q, hq, hd⟩)) e, hv1]
        exact put_off fun hpd => hself x (by simp) p hpx d hpd q hq hd)
      ((Nat.eq_zero_or_pos (cls E o.op)).imp id fun hc0 q hq => evA_kept fun d hd => by
        rw [foldD_kept _ (ni d (.inl ⟨Nat.pos_iff_ne_zero.1 hc0, q, hq, hd⟩)) e2, hv2, put_off (fun hod => hself i (by simp) o ho d hod q hq hd), hv1]
        exact put_off fun hpd => (looks_operand (ops := ops) (a1 d hpd)).1 q hq hd)
      (fun d hd => foldD_kept _ (sub d (nx d (.inr hd))) e2)
      (fun d hd => foldD_kept _ (ni d (.inr hd)) e2) xz zx h1 h2
    simp only [foldD, List.cons_append, ho, Option.bind_some, g1, hpx, g2]
    exact e2
end
end Go.Ab

namespace Go.Ab
open Go
variable [Val]
section
variable {P : Program} {E : Env} {C : CO} {nt : Nat} {w0 : World} {im0 : Nat → Prop} {ι0 : Nat → Option Nat} {h0 : H} {Q : Exit → Act → World → Prop} {ops : Array Oper}
/-- What is asked of two places of a drawn region's own order. -/
def RelD (E : Env) (ops : Array Oper) (b : Nat) (t : S) (x z : Nat) : Prop := x ≠ z ∧ Later E ops x z ∧
  (((masks ops.toList []).getD z 0).testBit x = true ∨ ∀ p q, ops[x]? = some p → ops[z]? = some q → Swp E ops b t x z p q)
theorem drawD_ok (hE : EnvOK P E) (hC : CallOK P C) (hdst : ∀ (i : Nat) o, ops[i]? = some o → ∀ x, o.dst = some x → x < nt)
    (hback : (ops.toList.zipIdx.all fun p => p.1.after.toList.all fun e => !Region.binds .any e || Nat.blt e.on p.2) = true) (hself : ∀ x, Self ops x) {b : Nat}
    {t : S} {h' : H} (hq : ∀ a' w', CS nt w0 im0 ι0 h0 t h' a' w' → Q .normal a' w') :
    ∀ (fuel : Nat) (listed : Array Bool) (R : List Nat) (a : Act) (w : World) (s : S) (h : H), R.length ≤ fuel → listed.size = ops.size → R.Pairwise (RelD E ops b t) → (∀ i, i ∈ R ↔ i < ops.size ∧ listed.getD i true = false) →
      Shut ops (fun j => listed.getD j false = true) → CS nt w0 im0 ι0 h0 s h a w → foldD E C ops b R s h = some (t, h') → wpAny P .any ops Q fuel listed a w := by
  obtain ⟨hgood, hml⟩ := masks_good (ops := ops) ops.toList [] 0 rfl (by simp) (by intro j hj; simp at hj)
  have at_ : ∀ (i : Nat) o, ops[i]? = some o → (o, i) ∈ ops.toList.zipIdx := fun i o ho => by
    rw [List.mem_zipIdx_iff_getElem?]; simpa using ho
  have back : ∀ (i : Nat) o, ops[i]? = some o → ∀ e ∈ o.after.toList, Region.binds .any e = true → e.on < i := fun i o ho e he hb => by
    have := List.all_eq_true.1 (List.all_eq_true.1 hback (o, i) (at_ i o ho)) e he
    simp only [hb, Bool.not_true, Bool.false_or] at this
    simpa using this
  have ready_mem : ∀ (listed : Array Bool) (i : Nat), i ∈ Region.ready .any ops listed ↔ i < ops.size ∧ listed.getD i true = false ∧ ∃ o, ops[i]? = some o ∧ ∀ e ∈ o.after.toList, Region.binds .any e = true → listed.getD e.on false = true := fun listed i => by
    simp only [Region.ready, List.mem_filter, List.mem_range, Bool.and_eq_true, Bool.not_eq_true']
    constructor
    · rintro ⟨h1, h2, h3⟩
      refine ⟨h1, h2, ops[i], by simp [h1], fun e he hb => ?_⟩
      simp only [Array.getElem?_eq_getElem h1, Option.map_some, Option.getD_some] at h3
      rw [← Array.all_toList, List.all_eq_true] at h3
      have := h3 e he
      simpa [hb] using this
    · rintro ⟨h1, h2, o, h3, h4⟩
      refine ⟨h1, h2, ?_⟩
      rw [h3]
      simp only [Option.map_some, Option.getD_some]
      rw [← Array.all_toList, List.all_eq_true]
      intro e he
      cases hb : Region.binds .any e with
      | false => simp
      | true => simpa [hb] using h4 e he hb
  have empty : ∀ (listed : Array Bool) (R : List Nat), (∀ i, i ∈ R ↔ i < ops.size ∧ listed.getD i true = false) → listed.size = ops.size → Region.ready .any ops listed = [] → R = [] := fun listed R hm hsz he => by
    rw [List.eq_nil_iff_forall_not_mem]
    intro i
    induction i using Nat.strongRecOn with
    | ind i ihi =>
      intro hi
      obtain ⟨h1, h2⟩ := (hm i).1 hi
      have : i ∈ Region.ready .any ops listed := by
        rw [ready_mem]
        refine ⟨h1, h2, ops[i], by simp [h1], fun e he hb => ?_⟩
        have hlt := back i _ (by simp [h1]) e he hb
        cases hg : listed.getD e.on true with
        | true =>
          rw [Array.getD_eq_getD_getElem?] at hg ⊢
          have : e.on < listed.size := by rw [hsz]; omega
          simp only [Array.getElem?_eq_getElem this, Option.getD_some] at hg ⊢
          exact hg
        | false => exact absurd ((hm e.on).2 ⟨by omega, hg⟩) (ihi e.on hlt)
      rw [he] at this
      cases this
  intro fuel
  induction fuel with
  | zero =>
    intro listed R a w s h hlen hsz hp hm hsh c e
    obtain rfl : R = [] := List.eq_nil_of_length_eq_zero (by omega)
    simp only [foldD, Option.some.injEq, Prod.mk.injEq] at e
    obtain ⟨rfl, rfl⟩ := e
    refine ⟨?_, hq a w c⟩
    rw [List.eq_nil_iff_forall_not_mem]
    intro i hi
    obtain ⟨h1, h2, _⟩ := (ready_mem listed i).1 hi
    have := (hm i).2 ⟨h1, h2⟩
    cases this
  | succ fuel ih =>
    intro listed R a w s h hlen hsz hp hm hsh c e
    refine ⟨fun he => ?_, fun i hi => ?_⟩
    · obtain rfl := empty listed R hm hsz he
      simp only [foldD, Option.some.injEq, Prod.mk.injEq] at e
      obtain ⟨rfl, rfl⟩ := e
      exact hq a w c
    · obtain ⟨h1, h2, o, ho, hed⟩ := (ready_mem listed i).1 hi
      have hiR := (hm i).2 ⟨h1, h2⟩
      obtain ⟨X, Y, rfl⟩ := List.append_of_mem hiR
      have hp0 := hp
      rw [List.pairwise_append] at hp
      obtain ⟨hpX, hpY, hXY⟩ := hp
      have hfront := frontD hE X i o Y s h t h' ho (hp0.imp fun hr => hr.2.1) (fun x _ => hself x) (fun x hx p hpx => by
        obtain ⟨hx1, hx2⟩ := (hm x).1 (by simp [hx])
        rcases (hXY x hx i (by simp)).2.2 with hall | hall
        · exfalso
          have hl := hgood i (by rw [hml]; simp; exact h1) o ho x hall (fun j => listed.getD j false = true) hsh hed
          rw [Array.getD_eq_getD_getElem?] at hl hx2
          cases hg : listed[x]? with
          | none => rw [hg] at hl; simp at hl
          | some b => rw [hg] at hl hx2; simp at hl hx2; rw [hl] at hx2; cases hx2
        · exact hall p o hpx ho) e
      simp only [foldD, ho, Option.bind_some] at hfront
      obtain ⟨r, hr1, hr2⟩ := bind_some' hfront
      refine stepD_ok hE hC c ho (hdst i o ho) (s' := r.1) (h' := r.2) hr1 fun a' w' c' => ?_
      have hgi : ∀ j (d : Bool), (listed.setIfInBounds i true).getD j d = if j = i then true else listed.getD j d := fun j d => by
        rw [Array.getD_eq_getD_getElem?, Array.getD_eq_getD_getElem?]
        by_cases hj : j = i
        · subst hj
          have : j < listed.size := by rw [hsz]; exact h1
          simp [this]
        · rw [Array.getElem?_setIfInBounds_ne (fun hh => hj hh.symm), if_neg hj]
      refine ih (listed.setIfInBounds i true) (X ++ Y) a' w' r.1 r.2 (by simp at hlen ⊢; omega) (by simpa using hsz) ?_ (fun j => ?_) (fun j o' hj ho' e' he' hb' => ?_) c' hr2
      · rw [List.pairwise_append]
        exact ⟨hpX, (List.pairwise_cons.1 hpY).2, fun x hx y hy => hXY x hx y (by simp [hy])⟩
      · rw [hgi]
        have hm' := hm j
        simp only [List.mem_append, List.mem_cons] at hm' ⊢
        by_cases hj : j = i
        · subst hj
          rw [if_pos rfl]
          constructor
          · rintro (hx | hy)
            · exact absurd rfl (hXY j hx j (by simp)).1
            · exact absurd rfl ((List.pairwise_cons.1 hpY).1 j hy).1
          · rintro ⟨_, hh⟩; cases hh
        · rw [if_neg hj, ← hm']
          constructor
          · rintro (hx | hy)
            · exact .inl hx
            · exact .inr (.inr hy)
          · rintro (hx | hy | hy)
            · exact .inl hx
            · exact absurd hy hj
            · exact .inr hy
      · simp only at hj ⊢
        rw [hgi] at hj ⊢
        split
        · rfl
        · split at hj
          · rename_i hji
            subst hji
            rw [ho] at ho'; cases ho'
            exact hed e' he' hb'
          · exact hsh j o' hj ho' e' he' hb'
end
end Go.Ab

namespace Go.Ab
open Go
variable [Val]
/-- What is asked of a drawn region's own order ahead. -/
def laterB (E : Env) (ops : Array Oper) (x y : Nat) : Bool := match ops[x]?, ops[y]? with
  | some p, some q => match q.dst with
    | some d => (Nat.beq (cls E p.op) 0 || p.op.operands.toList.all fun | .tmp u => !(Nat.beq u d) | _ => true) && p.dst != some d
    | none => true
  | _, _ => true
def selfB (ops : Array Oper) (x : Nat) : Bool := match ops[x]? with
  | some p => match p.dst with
    | some d => (p.op.operands.toList.all fun | .tmp u => !(Nat.beq u d) | _ => true)
    | none => true
  | _ => true
def pairB (E : Env) (ops : Array Oper) (x z : Nat) : Bool := match ops[x]?, ops[z]? with
  | some p, some q => ((masks ops.toList []).getD z 0).testBit x || (p.apart ops q && ((rdDst E p && rdDst E q) || (isK E q.op && movB E p.op) || (isK E p.op && Nat.beq (cls E q.op) 0)))
  | _, _ => true
def ordOk (E : Env) (ops : Array Oper) (l : List Nat) : Bool :=
  Nat.beq l.length ops.size && ((List.range ops.size).all fun i => l.contains i) && l.all (fun i => Nat.blt i ops.size) &&
  (ops.toList.zipIdx.all fun p => p.1.after.toList.all fun e => !Region.binds .any e || Nat.blt e.on p.2) &&
  ((List.range ops.size).all fun x => selfB ops x) && (pairsL l).all fun p => !(Nat.beq p.1 p.2) && laterB E ops p.1 p.2 && pairB E ops p.1 p.2
theorem opnds_ok {l : List Operand} {d : Nat} (h : (l.all fun | .tmp u => !(Nat.beq u d) | _ => true) = true) : ∀ r ∈ l, r ≠ .tmp d := fun r hr e => by
  subst e
  have := List.all_eq_true.1 h _ hr
  simp only [Nat.beq_refl] at this
  cases this
theorem laterB_ok {E : Env} {ops : Array Oper} {x y : Nat} (h : laterB E ops x y = true) : Later E ops x y := fun p q hp hq d hd => by
  simp only [laterB, hp, hq, hd, Bool.and_eq_true, Bool.or_eq_true] at h
  exact ⟨h.1.imp Nat.eq_of_beq_eq_true fun h1 r hr => opnds_ok h1 r (by simpa using hr), by simpa using h.2⟩
theorem selfB_ok {ops : Array Oper} (h : ((List.range ops.size).all fun x => selfB ops x) = true) (x : Nat) : Self ops x := fun p hp d hd r hr => by
  have := List.all_eq_true.1 h x (List.mem_range.2 (Array.getElem?_eq_some_iff.1 hp).1)
  simp only [selfB, hp, hd] at this
  exact opnds_ok this r (by simpa using hr)
theorem pairsL_pw {R : Nat → Nat → Prop} : ∀ {l : List Nat}, (∀ p ∈ pairsL l, R p.1 p.2) → l.Pairwise R
  | [], _ => .nil
  | x :: l, h => List.pairwise_cons.2 ⟨fun y hy => h (x, y) (by simp [pairsL, hy]), pairsL_pw fun p hp => h p (by simp [pairsL, hp])⟩
theorem push_foot {E : Env} {b : Nat} {s : S} {o : Oper} (h : pushP E o.op = true) : footR E b s o = [.own b 0 0] ∧ footW E b s o = [.own b 0 0] := by
  obtain ⟨dst, op, ty, pos, after, guard⟩ := o
  cases op <;> first | (simp [pushP, pushSz] at h; done) | (simp only [footR, footW]; simp only [pushP] at h; rw [h]; exact ⟨rfl, rfl⟩)
/-- What is asked of a function's code ahead. -/
def okCode (E : Env) (f : FuncId) (nt : Nat) : Code → Bool
  | .region id ops draw => (ops.toList.all fun o => match o.dst with | some d => Nat.blt d nt | none => true) && (match E.ord f id with | none => !draw || reorderOk E ops | some l => draw && ordOk E ops l)
  | .seq a b => okCode E f nt a && okCode E f nt b
  | .cond _ a b => okCode E f nt a && okCode E f nt b
  | .block _ b => okCode E f nt b
  | .loop b => okCode E f nt b
  | _ => true
def okGh (nt : Nat) : Gh → Bool
  | .onil t _ => Nat.blt t nt
  | _ => true
/-- How the exits go together. -/
def XR : Exit → X → Prop
  | .normal, .nrm => True
  | .exit i, .ext j => i = j
  | .ret, .ret => True
  | _, _ => False
structure EnvOK2 (P : Program) (E : Env) : Prop extends EnvOK P E where
  mixed : P.follows .mixedOrders = true
  gh : ∀ f r t sz, Gh.onil t sz ∈ E.gh f r → ∀ fn, E.fn f = some fn → t < fn.ntmps
  fn : ∀ f fn, E.fn f = some fn → E.prim f = none → P.funcs[f]? = some fn ∧ (fn.name == "runtime.NumGoroutine") = false ∧ ∀ c, fn.body = some c → okCode E f fn.ntmps c = true

section
variable {P : Program} {E : Env} {C : CO} {L : LO} {nt : Nat} {w0 : World} {im0 : Nat → Prop} {ι0 : Nat → Option Nat} {h0 : H}

/-! the proof's own steps -/
theorem fzIds_ok {w : World} {im : Nat → Prop} {ι : Nat → Option Nat} : ∀ (ids : List Nat) (h : H), HRep w im ι h → ∃ im', HRep w im' ι (fzH ids h) ∧ Stp w im ι h w im' ι (fzH ids h) := by
  have one : ∀ (id : Nat) (im : Nat → Prop) (h : H), HRep w im ι h → ∃ im', HRep w im' ι (h.modify id fun o => { o with fz := true }) ∧ Stp w im ι h w im' ι (h.modify id fun o => { o with fz := true }) := fun id im h G => by
    have get : ∀ (i : Nat) o', (h.modify id fun o => { o with fz := true })[i]? = some o' → ∃ o, h[i]? = some o ∧ o'.sz = o.sz ∧ o'.rows = o.rows ∧ (i = id → o'.fz = true) ∧ (i ≠ id → o' = o) := fun i o' hi => by
      rw [List.getElem?_modify] at hi
      cases ho : h[i]? with
      | none => rw [ho] at hi; simp at hi
      | some o =>
        rw [ho] at hi
        by_cases he : id = i
        · subst he; simp at hi; subst hi; exact ⟨o, rfl, rfl, rfl, fun _ => rfl, fun hh => absurd rfl hh⟩
        · simp [he] at hi; subst hi; exact ⟨o, rfl, rfl, rfl, fun hh => absurd hh.symm he, fun _ => rfl⟩
    let im' : Nat → Prop := fun b => im b ∨ ∃ o, h[id]? = some o ∧ ι id = some b
    have s : Stp w im ι h w im' ι (h.modify id fun o => { o with fz := true }) :=
      { Stp.refl w im ι h with
        imS := fun b hb => .inl hb
        imN := fun b hb => by
          rcases hb with hb | ⟨o, ho, hi⟩
          · exact .inl hb
          · cases hf : o.fz with
            | true => exact .inl ((G.fzIm id o b ho hi).1 hf)
            | false => exact .inr (.inl ⟨id, o, ho, hf, hi⟩)
        wr := fun b ⟨i, o', ho', hf, hi⟩ => by
          obtain ⟨o, h1, h2, h3, h4, h5⟩ := get i o' ho'
          by_cases he : i = id
          · rw [h4 he] at hf; cases hf
          · rw [h5 he] at hf; exact .inl ⟨i, o, h1, hf, hi⟩
        len := by simp
        objs := fun i o o' h1 h2 => by
          obtain ⟨o2, g1, g2, g3, _⟩ := get i o' h2
          rw [h1] at g1; cases g1
          exact ⟨g2, by rw [g3]; exact Nat.le_refl _, fun _ => rfl⟩ }
    refine ⟨im', G.step s (fun i o' ho' => ?_) (fun i j b hi hj => G.inj i j b (by simpa using hi) (by simpa using hj)) (fun b hb => ?_) (fun i o' b ho' hi => ?_), s⟩
    · obtain ⟨o, h1, h2, h3, h4, h5⟩ := get i o' ho'
      right
      rcases G.obj i o h1 with ⟨g0, g1⟩ | ⟨b, c, e, g1, g2, g3, g4, g5⟩
      · refine .inl ⟨g0, ?_⟩
        rcases g1 with g1 | g1
        · exact .inl (by rw [h3, g1])
        · right
          by_cases he : i = id
          · exact h4 he
          · rw [h5 he]; exact g1
      · refine .inr ⟨b, c, e, g1, g2, by rw [h2, h3]; exact g3, by rw [h2, h3]; exact g4, fun i' j r a k1 k2 => ?_⟩
        rw [h3] at k1
        obtain ⟨v, k3, k4, k5⟩ := g5 i' j r a k1 k2
        rw [h2]
        exact ⟨v, k3, k4, k5.mono G s⟩
    · rcases hb with hb | ⟨o, ho, hi⟩
      · exact G.imLt b hb
      · exact G.old (List.getElem?_eq_some_iff.1 ho).1 hi
    · obtain ⟨o, h1, h2, h3, h4, h5⟩ := get i o' ho'
      by_cases he : i = id
      · subst he
        exact ⟨fun _ => .inr ⟨o, h1, hi⟩, fun hf => by rw [h4 rfl] at hf; cases hf⟩
      · rw [h5 he]
        refine ⟨fun hf => .inl ((G.fzIm i o b h1 hi).1 hf), fun hf hb => ?_⟩
        rcases hb with hb | ⟨o2, ho2, hi2⟩
        · exact (G.fzIm i o b h1 hi).2 hf hb
        · exact he (G.inj i id b (List.getElem?_eq_some_iff.1 h1).1 (List.getElem?_eq_some_iff.1 ho2).1 hi hi2)
  intro ids
  induction ids with
  | nil => intro h G; exact ⟨im, G, Stp.refl _ _ _ _⟩
  | cons id ids ih =>
    intro h G
    obtain ⟨im1, G1, s1⟩ := ih h G
    obtain ⟨im2, G2, s2⟩ := one id im1 _ G1
    exact ⟨im2, G2, s1.trans s2⟩
theorem onP_ok {w : World} {im : Nat → Prop} {ι : Nat → Option Nat} {h h' : H} {p : A} {off sz : Nat} (G : HRep w im ι h) (e : onP p off sz h = some h') : ∃ ι', HRep w im ι' h' ∧ Stp w im ι h w im ι' h' := by
  cases p with
  | ptr id ver row o =>
    simp only [onP] at e
    cases ho : h[id]? with
    | none => rw [ho] at e; cases e
    | some ob =>
      rw [ho] at e
      simp only at e
      split at e
      case isFalse => cases e
      rename_i hh
      obtain ⟨hver, hfz⟩ := hh
      obtain ⟨r, hr, e⟩ := bind_some' e
      split at e
      case h_3 => cases e
      case h_2 =>
        simp only [Option.some.injEq] at e
        subst e
        exact ⟨ι, G, Stp.refl _ _ _ _⟩
      rename_i hnil
      simp only [Option.some.injEq] at e
      subst e
      obtain ⟨G1, s1⟩ := G.pushNone sz
      have hidlt := (List.getElem?_eq_some_iff.1 ho).1
      -- the object set
      have hset : h.set id { ob with rows := ob.rows.set row (r.set (o + off) (.own h.length 0 0)) } ++ [(⟨sz, false, []⟩ : Obj)] = (h ++ [(⟨sz, false, []⟩ : Obj)]).set id { ob with rows := ob.rows.set row (r.set (o + off) (.own h.length 0 0)) } := by
        rw [List.set_append_left _ _ hidlt]
      rw [hset]
      have ho1 : (h ++ [(⟨sz, false, []⟩ : Obj)])[id]? = some ob := by rw [List.getElem?_append_left hidlt]; exact ho
      have hmem := List.mem_of_getElem? hr
      obtain ⟨b, c, et, hib, hcells, hcl, hsz, hcell⟩ := G1.at_ ho1 hmem (.inl hfz)
      have hself : w.setRow b c = w := setRow_self w b c et (0, 0) hcells
      have := G1.write (c' := c) ho1 hfz hib hcells rfl (ob.rows.set row (r.set (o + off) (.own h.length 0 0))) (by simp) (by rw [List.length_set]; exact hcl) (fun r' hr' => by
        rcases List.mem_or_eq_of_mem_set hr' with hm | rfl
        · exact hsz r' hm
        · rw [List.length_set]; exact hsz r hmem) (fun i j r' a h1 h2 => by
        rw [List.getElem?_set] at h1
        split at h1
        · rename_i hi
          subst hi
          split at h1
          · simp only [Option.some.injEq] at h1
            subst h1
            rw [List.getElem?_set] at h2
            split at h2
            · rename_i hj
              subst hj
              split at h2
              · simp only [Option.some.injEq] at h2
                subst h2
                obtain ⟨v, g1, g2, g3⟩ := hcell row (o + off) r _ hr hnil
                refine ⟨v, g1, g2, ?_⟩
                cases g3 with
                | d hd => cases hd
                | nils ad => exact .own (o := ⟨sz, false, []⟩) (by simp) (by simp) (Nat.le_refl _) fun _ => .inl rfl
              · cases h2
            · exact hcell row j r a hr h2
          · cases h1
        · exact hcell i j r' a h1 h2)
      rw [hself] at this
      exact ⟨_, this.1, s1.trans this.2⟩
  | _ => simp [onP] at e
theorem imP_ok {w : World} {im : Nat → Prop} {ι : Nat → Option Nat} {h h' : H} {p : A} {off n : Nat} (G : HRep w im ι h) (e : imP p off n h = some h') : HRep w im ι h' ∧ Stp w im ι h w im ι h' := by
  cases p with
  | ptr id ver row o =>
    simp only [imP] at e
    cases ho : h[id]? with
    | none => rw [ho] at e; cases e
    | some ob =>
      rw [ho] at e
      simp only at e
      split at e
      case isFalse => cases e
      rename_i hh
      obtain ⟨hver, hfz⟩ := hh
      obtain ⟨r, hr, e⟩ := bind_some' e
      split at e
      case isFalse => cases e
      rename_i hle
      cases hm : ((r.drop (o + off)).take n).mapM (frz h true 6) with
      | none => rw [hm] at e; cases e
      | some cs =>
        rw [hm] at e
        simp only [Option.map_some, Option.some.injEq] at e
        subst e
        have hcl' : cs.length = n := by
          have := mapM_length hm
          rw [List.length_take, List.length_drop] at this
          omega
        have hidlt := (List.getElem?_eq_some_iff.1 ho).1
        have hmem := List.mem_of_getElem? hr
        obtain ⟨b, c, et, hib, hcells, hcl, hsz, hcell⟩ := G.at_ ho hmem (.inl hfz)
        have hself : w.setRow b c = w := setRow_self w b c et (0, 0) hcells
        have hspl : (splice r (o + off) cs).length = r.length := splice_length _ _ _ (by omega)
        have := G.write (c' := c) ho hfz hib hcells rfl (ob.rows.set row (splice r (o + off) cs)) (by simp) (by rw [List.length_set]; exact hcl) (fun r' hr' => by
          rcases List.mem_or_eq_of_mem_set hr' with hm | rfl
          · exact hsz r' hm
          · rw [hspl]; exact hsz r hmem) (fun i j r' a h1 h2 => by
          rw [List.getElem?_set] at h1
          split at h1
          · rename_i hi
            subst hi
            split at h1
            · simp only [Option.some.injEq] at h1
              subst h1
              rw [splice_get _ _ _ (by omega)] at h2
              split at h2
              · rename_i hj
                obtain ⟨a0, k1, k2⟩ := mapM_get' hm _ a h2
                rw [List.getElem?_take_of_lt (by omega), List.getElem?_drop] at k1
                have hjj : o + off + (j - (o + off)) = j := by omega
                rw [hjj] at k1
                obtain ⟨v, g1, g2, g3⟩ := hcell row j r a0 hr k1
                exact ⟨v, g1, g2, (frz_ok (ι' := fun _ => none) G true 6 a0 a v g3 k2).1.nilMono fun b hb => hb.elim (fun h => h) fun hh => Bool.noConfusion hh.1⟩
              · exact hcell row j r a hr h2
            · cases h1
          · exact hcell i j r' a h1 h2)
        rw [hself] at this
        exact this
  | _ => simp [imP] at e
end
end Go.Ab

namespace Go.Ab
open Go
variable [Val]
theorem rankP_lt {E : Env} {ops : Array Oper} {i j : Nat} {o : Oper} (hij : i < j) (ho : ops[i]? = some o) (hp : (pushSz E o.op).isSome = true) : rankP E ops i < rankP E ops j := by
  unfold rankP
  have h1 : ops.toList.take (i + 1) = ops.toList.take i ++ [o] := by
    have hi : i < ops.toList.length := by have := (Array.getElem?_eq_some_iff.1 ho).1; simpa using this
    rw [List.take_succ_eq_append_getElem hi]
    have : ops.toList[i] = o := by
      have h2 := (Array.getElem?_eq_some_iff.1 ho).2
      simpa using h2
    rw [this]
  have h2 : (ops.toList.take (i + 1)).Sublist (ops.toList.take j) := List.take_sublist_take_left (by omega)
  have h3 := (h2.filter fun o => (pushSz E o.op).isSome).length_le
  rw [h1, List.filter_append] at h3
  simp [hp] at h3
  omega
theorem pushP_some {E : Env} {o : Op} (h : pushP E o = true) : (pushSz E o).isSome = true := by
  cases o <;> first | exact h | cases h
theorem apA_ok {x y : A} (h : apA x y = true) {j : Nat} (hx : idA x = some j) : idA y ≠ some j := by
  intro hy
  simp only [apA, hx, hy, Nat.beq_refl] at h
  cases h
/-- The order's look ahead, with the end's check. -/
theorem ordOk_rel {E : Env} {ops : Array Oper} {l : List Nat} {b : Nat} {t : S} (h : ordOk E ops l = true) (hck : (((needP E ops l).flatMap (pairD E ops b t)).all fun p => apA p.1 p.2) = true) :
    l.Pairwise (RelD E ops b t) := by
  simp only [ordOk, Bool.and_eq_true] at h
  obtain ⟨_, hpairs⟩ := h
  refine pairsL_pw fun p hp => ?_
  obtain ⟨x, z⟩ := p
  have := List.all_eq_true.1 hpairs _ hp
  simp only [Bool.and_eq_true, Bool.not_eq_true'] at this
  obtain ⟨⟨h1, h2⟩, h3⟩ := this
  have hne : x ≠ z := fun e => by subst e; rw [Nat.beq_refl] at h1; cases h1
  refine ⟨hne, laterB_ok h2, ?_⟩
  cases hm : ((masks ops.toList []).getD z 0).testBit x with
  | true => exact .inl rfl
  | false =>
    refine .inr fun p q hpx hqz => ?_
    simp only [pairB, hpx, hqz, hm, Bool.false_or, Bool.and_eq_true, Bool.or_eq_true] at h3
    obtain ⟨hap, h3⟩ := h3
    rcases h3 with (⟨hrx, hrz⟩ | h3) | h3
    rotate_left
    · exact .inr ⟨hap, .inl h3⟩
    · exact .inr ⟨hap, .inr ⟨h3.1, Nat.eq_of_beq_eq_true h3.2⟩⟩
    left
    cases hs : statD E ops (x, z) with
    | true =>
      simp only [statD, hpx, hqz, Bool.or_eq_true, Bool.and_eq_true] at hs
      rcases hs with ((hs | hs) | hs) | hs
      · have h0 := Nat.eq_of_beq_eq_true hs
        exact ⟨hap, hrx, hrz, fun j hj => by rw [cls1_W (by omega)] at hj; exact absurd hj Touch.nil, fun j _ hj => by rw [cls0_R h0] at hj; exact Touch.nil hj⟩
      · have h0 := Nat.eq_of_beq_eq_true hs
        exact ⟨hap, hrx, hrz, fun j _ hj => by rw [cls0_R h0] at hj; exact Touch.nil hj, fun j hj => by rw [cls1_W (by omega)] at hj; exact absurd hj Touch.nil⟩
      · exact ⟨hap, hrx, hrz, fun j hj => by rw [cls1_W (Nat.le_of_ble_eq_true hs.1)] at hj; exact absurd hj Touch.nil, fun j hj => by rw [cls1_W (Nat.le_of_ble_eq_true hs.2)] at hj; exact absurd hj Touch.nil⟩
      · obtain ⟨r1, w1⟩ := push_foot (b := b + rankP E ops x) (s := t) hs.1
        obtain ⟨r2, w2⟩ := push_foot (b := b + rankP E ops z) (s := t) hs.2
        have hr : rankP E ops x ≠ rankP E ops z := by
          rcases Nat.lt_or_gt_of_ne hne with hlt | hlt
          · exact Nat.ne_of_lt (rankP_lt hlt hpx (pushP_some hs.1))
          · exact Nat.ne_of_gt (rankP_lt hlt hqz (pushP_some hs.2))
        refine ⟨hap, hrx, hrz, fun j hj hk => ?_, fun j hj hk => ?_⟩
        · rw [w1] at hj; rw [r2] at hk
          have := (touch_one rfl j).1 hj; have := (touch_one rfl j).1 hk; omega
        · rw [w2] at hj; rw [r1] at hk
          have := (touch_one rfl j).1 hj; have := (touch_one rfl j).1 hk; omega
    | false =>
      have hn : (x, z) ∈ needP E ops l := by
        simp only [needP, List.mem_filter, hp, hm, hs, true_and]; rfl
      have hall : ∀ v u, (v, u) ∈ pairD E ops b t (x, z) → apA v u = true := fun v u hvu => List.all_eq_true.1 hck (v, u) (List.mem_flatMap.2 ⟨_, hn, hvu⟩)
      simp only [pairD, hpx, hqz, List.mem_append, List.mem_flatMap, List.mem_map] at hall
      refine ⟨hap, hrx, hrz, fun j ⟨v, hv, hj⟩ ⟨u, hu, hk⟩ => ?_, fun j ⟨v, hv, hj⟩ ⟨u, hu, hk⟩ => ?_⟩
      · exact apA_ok (hall v u (.inl ⟨v, hv, u, hu, rfl⟩)) hj hk
      · exact apA_ok (hall v u (.inr ⟨v, hv, u, hu, rfl⟩)) hj hk
end Go.Ab

namespace Go.Ab
open Go
variable [Val]
section
variable {P : Program} {E : Env} {C : CO} {L : LO} {nt : Nat} {w0 : World} {im0 : Nat → Prop} {ι0 : Nat → Option Nat} {h0 : H} {β : Type}

theorem CS.move {s : S} {h h' : H} {a : Act} {w w' : World} {im : Nat → Prop} {ι : Nat → Option Nat} (c : Conc nt a w im ι s h) (st : Stp w0 im0 ι0 h0 w im ι h) {im' : Nat → Prop} {ι' : Nat → Option Nat}
    (G : HRep w' im' ι' h') (s2 : Stp w im ι h w' im' ι' h') : CS nt w0 im0 ι0 h0 s h' a w' := ⟨im', ι', c.move G s2, st.trans s2⟩

theorem mk_rep {w : World} {im : Nat → Prop} {ι : Nat → Option Nat} {s : S} {h : H} {v : Value} {t : Nat} (hr : RepA w im ι h v (s t)) : ∀ l : List Nat, RepA w im ι h v (mk (l.map fun i => (i, s i)) t) := fun l => by
  induction l with
  | nil => exact .dead _
  | cons i l ih =>
    simp only [List.map_cons, mk]
    cases hb : Nat.beq t i with
    | true => have := Nat.eq_of_beq_eq_true hb; subst this; exact hr
    | false => exact ih
theorem Conc.pick {s : S} {h : H} {a : Act} {w : World} {im : Nat → Prop} {ι : Nat → Option Nat} (c : Conc nt a w im ι s h) (l : List Nat) : Conc nt a w im ι (pickS l s) h :=
  ⟨c.size, c.defers, fun t => mk_rep (c.rep t) l, c.heap⟩
theorem gh_ok : ∀ (g : List Gh) (s : S) (h : H) (k : S → H → Option β) (r : β) (a : Act) (w : World), (∀ t sz, Gh.onil t sz ∈ g → t < nt) → CS nt w0 im0 ι0 h0 s h a w → ghK g s h k = some r →
    ∃ s' h', CS nt w0 im0 ι0 h0 s' h' a w ∧ k s' h' = some r := by
  intro g
  induction g with
  | nil => intro s h k r a w _ c e; exact ⟨s, h, c, e⟩
  | cons x g ih =>
    intro s h k r a w hg c e
    obtain ⟨im, ι, c, st⟩ := c
    cases x with
    | fz t =>
      simp only [ghK] at e
      obtain ⟨im', G, s2⟩ := fzIds_ok (gIds h (s t)) h c.heap
      exact ih s _ k r a w (fun t sz hm => hg t sz (by simp [hm])) (CS.move c st G s2) e
    | onil t sz =>
      simp only [ghK] at e
      cases hs : s t with
      | nils =>
        rw [hs] at e
        simp only [onK] at e
        obtain ⟨G, s2⟩ := c.heap.pushNone sz
        refine ih _ _ k r a w (fun t sz hm => hg t sz (by simp [hm])) ?_ e
        have c2 := c.move G s2
        refine ⟨_, _, ⟨c2.size, c2.defers, fun q => ?_, G⟩, st.trans s2⟩
        simp only [put]
        cases hq : Nat.beq q t with
        | false => exact c2.rep q
        | true =>
          have := Nat.eq_of_beq_eq_true hq
          subst this
          have hr := c.rep q
          rw [hs] at hr
          simp only [cond_true]
          generalize a.tmps.getD q undef = v at hr
          cases hr with
          | d hd => cases hd
          | nils ad => exact .own (o := ⟨sz, false, []⟩) (by simp) (by simp) (Nat.le_refl _) fun _ => .inl rfl
      | _ =>
        rw [hs] at e
        simp only [onK] at e
        refine ih _ _ k r a w (fun t sz hm => hg t sz (by simp [hm])) ⟨im, ι, ⟨c.size, c.defers, fun q => ?_, c.heap⟩, st⟩ e
        simp only [put]
        cases hq : Nat.beq q t with
        | false => exact c.rep q
        | true =>
          have := Nat.eq_of_beq_eq_true hq
          subst this
          have hr := c.rep q
          rw [hs] at hr
          exact hr
    | onilAt t off sz =>
      simp only [ghK] at e
      obtain ⟨h', h1, e⟩ := bind_some' e
      obtain ⟨ι', G, s2⟩ := onP_ok c.heap h1
      exact ih s _ k r a w (fun t sz hm => hg t sz (by simp [hm])) (CS.move c st G s2) e
    | fzAt t off n =>
      simp only [ghK] at e
      obtain ⟨im', G, s2⟩ := fzIds_ok (cIds h off n (s t)) h c.heap
      exact ih s _ k r a w (fun t sz hm => hg t sz (by simp [hm])) (CS.move c st G s2) e
    | imAt t off n =>
      simp only [ghK] at e
      obtain ⟨im', G, s2⟩ := fzIds_ok (cIds h off n (s t)) h c.heap
      obtain ⟨h2, h1, e⟩ := bind_some' e
      obtain ⟨G2, s3⟩ := imP_ok G h1
      exact ih s _ k r a w (fun t sz hm => hg t sz (by simp [hm])) (CS.move c st G2 (s2.trans s3)) e
    | im t =>
      simp only [ghK] at e
      obtain ⟨u, h1, e⟩ := bind_some' e
      obtain ⟨im', G, s2⟩ := fzIds_ok (ownD h 6 (s t)) h c.heap
      have c2 := c.move G s2
      refine ih _ _ k r a w (fun t sz hm => hg t sz (by simp [hm])) ⟨_, _, ⟨c2.size, c2.defers, fun q => ?_, G⟩, st.trans s2⟩ e
      simp only [put]
      cases hq : Nat.beq q t with
      | false => exact c2.rep q
      | true =>
        have := Nat.eq_of_beq_eq_true hq
        subst this
        exact ((frz_ok (ι' := fun _ => none) G true 6 (s q) u _ (c2.rep q) h1).1.nilMono fun b hb => hb.elim id fun hh => Bool.noConfusion hh.1)

/-- A loop, from the head of its round on. -/
def LoopWp (P : Program) (c : Code) (Q : Exit → Act → World → Prop) (a : Act) (w : World) : Prop := ∀ (b : Frame) (k : List Item) (cs : List Frame),
  ∃ e a' w', Q e a' w' ∧ Arrives P (lone (b.at a (.code c :: .inLoop c :: k)) cs w) b k cs e a' w'
theorem LoopWp.loop {c : Code} {Q : Exit → Act → World → Prop} {a : Act} {w : World} (h : LoopWp P c Q a w) : (Code.loop c).wp P Q a w := fun b k cs =>
  let ⟨e, a', w', q, r⟩ := h b k cs; ⟨e, a', w', q, .of_steps (.one step_loop) r⟩
theorem LoopWp.round {c : Code} {Q : Exit → Act → World → Prop} {a : Act} {w : World} (h : c.wp P (Exit.then (LoopWp P c Q) Q) a w) : LoopWp P c Q a w := by
  intro b k cs
  obtain ⟨e, a₁, w₁, hq, harr⟩ := h b (.inLoop c :: k) cs
  cases e with
  | normal =>
    obtain ⟨e₂, a₂, w₂, hq₂, harr₂⟩ := hq b k cs
    exact ⟨e₂, a₂, w₂, hq₂, .of_steps (Steps.trans harr (.one step_inLoop)) harr₂⟩
  | exit id => exact ⟨_, a₁, w₁, hq, .pass (x := .inLoop c) rfl (fun _ _ => .inl (by simp)) harr⟩
  | goto l => exact ⟨_, a₁, w₁, hq, .pass (x := .inLoop c) rfl (fun _ _ => .inl (by simp)) harr⟩
  | ret => exact ⟨_, a₁, w₁, hq, .pass (x := .inLoop c) rfl (fun _ _ => .inl (by simp)) harr⟩
  | panic ch => exact ⟨_, a₁, w₁, hq, .pass (x := .inLoop c) rfl (fun _ _ => .inl (by simp)) harr⟩
  | outgrown => exact ⟨_, a₁, w₁, hq, .pass (x := .inLoop c) rfl (fun _ _ => .inl (by simp)) harr⟩
/-- What a loop's run says of the loop. -/
def LoopOK (P : Program) (E : Env) (L : LO) : Prop := ∀ f b s h x s' h', L f b s h = some (x, s', h') → ∀ nt, okCode E f nt b = true → (∀ r t sz, Gh.onil t sz ∈ E.gh f r → t < nt) →
  ∀ w0 im0 ι0 h0 a w, CS nt w0 im0 ι0 h0 s h a w → LoopWp P b (fun e a' w' => XR e x ∧ CS nt w0 im0 ι0 h0 s' h' a' w') a w

theorem code_ok (hE : EnvOK2 P E) (hC : CallOK P C) (hL : LoopOK P E L) {f : FuncId} (hg : ∀ r t sz, Gh.onil t sz ∈ E.gh f r → t < nt) {r : β} : ∀ (c : Code), okCode E f nt c = true → ∀ (k : X → S → H → Option β) (s : S) (h : H) (a : Act) (w : World), CS nt w0 im0 ι0 h0 s h a w →
    execK E C L f c s h k = some r → c.wp P (fun e a' w' => ∃ x s' h', XR e x ∧ CS nt w0 im0 ι0 h0 s' h' a' w' ∧ k x s' h' = some r) a w := by
  intro c
  induction c with
  | skip => intro _ k s h a w c e; exact wp_skip ⟨.nrm, s, h, trivial, c, e⟩
  | region id ops draw =>
    intro hok k s h a w c e
    simp only [execK] at e
    obtain ⟨s1, h1, c1, e⟩ := gh_ok (E.gh f id) s h _ r a w (fun t sz hm => hg id t sz hm) c e
    simp only [okCode, Bool.and_eq_true] at hok
    obtain ⟨hd, hdr⟩ := hok
    have hdst : ∀ (i : Nat) o, ops[i]? = some o → ∀ x, o.dst = some x → x < nt := fun i o ho x hx => by
      have := List.all_eq_true.1 hd o (List.mem_of_getElem? (i := i) (by simpa using ho))
      rw [hx] at this
      simpa using this
    cases ho : E.ord f id with
    | some l =>
      rw [ho] at e hdr
      simp only [Bool.and_eq_true] at e hdr
      obtain ⟨rfl, hor⟩ := hdr
      rw [opsD_fold] at e
      obtain ⟨r1, e1, e2⟩ := bind_some' e
      obtain ⟨hck, e2⟩ := bif_some e2
      have hor' := hor
      simp only [ordOk, Bool.and_eq_true] at hor'
      obtain ⟨⟨⟨⟨⟨hlen, hin⟩, hlt⟩, hback⟩, hself⟩, _⟩ := hor'
      have hdm : dumm E ops = (ops.toList.filterMap fun o => pushSz E o.op).map fun n => ⟨n, false, []⟩ := by
        simp only [dumm, List.map_filterMap]
      refine wp_region_any hE.mixed ?_
      have c2 : CS nt w0 im0 ι0 h0 s1 h1 a { w with drawn := w.drawn + 1 } := by
        obtain ⟨im, ι, c1, st⟩ := c1
        obtain ⟨G, s2⟩ := c1.heap.drew
        exact CS.move c1 st G s2
      have c3 : CS nt w0 im0 ι0 h0 s1 (h1 ++ dumm E ops) a { w with drawn := w.drawn + 1 } := by rw [hdm]; exact dumm_ok _ c2
      refine drawD_ok hE.toEnvOK hC hdst hback (selfB_ok hself) (t := r1.1) (h' := r1.2) (fun a' w' c' => ⟨.nrm, r1.1, r1.2, trivial, c', e2⟩) ops.size (Array.replicate ops.size false) l a _ s1 _
        (Nat.le_of_eq (Nat.eq_of_beq_eq_true hlen)) (by simp) (ordOk_rel hor hck) (fun i => ?_) (fun j o hj ho e he hb => ?_) c3 e1
      · constructor
        · intro hi
          have hi' : i < ops.size := by simpa using List.all_eq_true.1 hlt i hi
          exact ⟨hi', by rw [Array.getD_eq_getD_getElem?]; simp [hi']⟩
        · rintro ⟨hi, _⟩
          have := List.all_eq_true.1 hin i (List.mem_range.2 hi)
          simpa using this
      · simp only at hj
        rw [Array.getD_eq_getD_getElem?] at hj
        rw [Array.getElem?_replicate] at hj
        split at hj <;> simp at hj
    | none =>
    rw [ho] at e hdr
    simp only at e hdr
    have hf := opsK_fold (E := E) (C := C) ops (k .nrm) ops.size 0 s1 h1 (by omega)
    rw [List.drop_zero] at hf
    rw [hf] at e
    obtain ⟨r1, e1, e2⟩ := bind_some' e
    have hq : ∀ a' w', CS nt w0 im0 ι0 h0 r1.1 r1.2 a' w' → ∃ x s' h', XR Exit.normal x ∧ CS nt w0 im0 ι0 h0 s' h' a' w' ∧ k x s' h' = some r := fun a' w' c' => ⟨.nrm, r1.1, r1.2, trivial, c', e2⟩
    cases draw with
    | false =>
      refine wp_region ?_
      rw [List.range_eq_range']
      exact fold_ok hE.toEnvOK hC hdst _ a w s1 r1.1 h1 r1.2 c1 e1 hq
    | true =>
      refine wp_region_any hE.mixed ?_
      have c2 : CS nt w0 im0 ι0 h0 s1 h1 a { w with drawn := w.drawn + 1 } := by
        obtain ⟨im, ι, c1, st⟩ := c1
        obtain ⟨G, s2⟩ := c1.heap.drew
        exact CS.move c1 st G s2
      refine draw_ok hE.toEnvOK hC hdst (by simpa using hdr) hq ops.size (Array.replicate ops.size false) (List.range' 0 ops.size) a _ s1 h1 (by simp) (by simp) List.pairwise_lt_range' (fun i => ?_) (fun j o hj ho e he hb => ?_) c2 e1
      · rw [List.mem_range'_1]
        constructor
        · rintro ⟨_, h2⟩
          have hi : i < ops.size := by omega
          exact ⟨hi, by rw [Array.getD_eq_getD_getElem?]; simp [hi]⟩
        · rintro ⟨h2, _⟩; omega
      · simp only at hj
        rw [Array.getD_eq_getD_getElem?] at hj
        rw [Array.getElem?_replicate] at hj
        split at hj <;> simp at hj
  | seq x y ihx ihy =>
    intro hok k s h a w c e
    simp only [okCode, Bool.and_eq_true] at hok
    simp only [execK] at e
    refine wp_seq (wp_mono (ihx hok.1 _ s h a w c e) ?_)
    rintro e' a' w' ⟨z, s', h', hx, hc, hk⟩
    cases z with
    | nrm =>
      cases e' <;> simp only [XR] at hx
      exact ihy hok.2 k s' h' a' w' hc hk
    | ret =>
      cases e' <;> simp only [XR] at hx
      exact ⟨.ret, s', h', trivial, hc, hk⟩
    | ext j =>
      cases e' <;> simp only [XR] at hx
      exact ⟨.ext j, s', h', hx, hc, hk⟩
  | cond x y z ihy ihz =>
    intro hok k s h a w c e
    simp only [okCode, Bool.and_eq_true] at hok
    simp only [execK] at e
    obtain ⟨im, ι, c0, st⟩ := c
    have hx := c0.ev x
    cases hb : evA s x with
    | bool b =>
      rw [hb] at e hx
      have hv := hx.bool
      simp only [bK] at e
      refine wp_cond hv ?_
      cases b with
      | true => exact ihy hok.1 k s h a w ⟨im, ι, c0, st⟩ e
      | false => exact ihz hok.2 k s h a w ⟨im, ι, c0, st⟩ e
    | _ => rw [hb] at e; simp [bK] at e
  | block id b ih =>
    intro hok k s h a w c e
    simp only [okCode] at hok
    simp only [execK] at e
    refine wp_block (wp_mono (ih hok _ s h a w c e) ?_)
    rintro e' a' w' ⟨z, s', h', hx, hc, hk⟩
    cases z with
    | nrm =>
      cases e' <;> simp only [XR] at hx
      exact ⟨.nrm, s', h', trivial, hc, hk⟩
    | ret =>
      cases e' <;> simp only [XR] at hx
      exact ⟨.ret, s', h', trivial, hc, hk⟩
    | ext j =>
      cases e' <;> simp only [XR] at hx
      rename_i j'
      subst hx
      simp only at hk
      cases hj : Nat.beq j' id with
      | true =>
        rw [hj] at hk
        have := Nat.eq_of_beq_eq_true hj
        subst this
        simp only [Exit.inBlock, if_true]
        exact ⟨.nrm, s', h', trivial, hc, hk⟩
      | false =>
        rw [hj] at hk
        have hne : j' ≠ id := fun hh => by subst hh; rw [Nat.beq_refl] at hj; cases hj
        simp only [Exit.inBlock, if_neg hne]
        exact ⟨.ext j', s', h', rfl, hc, hk⟩
  | loop b ih =>
    intro hok k s h a w c e
    simp only [okCode] at hok
    simp only [execK] at e
    cases hr : L f b (pickS (E.live f (firstR b)) s) h with
    | none => rw [hr] at e; simp [lpK] at e
    | some t =>
      obtain ⟨x, s', h'⟩ := t
      rw [hr] at e
      have c2 : CS nt w0 im0 ι0 h0 (pickS (E.live f (firstR b)) s) h a w := by
        obtain ⟨im, ι, c0, st⟩ := c
        exact ⟨im, ι, c0.pick _, st⟩
      refine wp_mono (hL f b _ h x s' h' hr nt hok hg w0 im0 ι0 h0 a w c2).loop ?_
      rintro e' a' w' ⟨hx, hc⟩
      cases x with
      | nrm => simp [lpK] at e
      | ret => exact ⟨.ret, s', h', hx, hc, e⟩
      | ext j =>
        refine ⟨.ext j, s', h', hx, hc, ?_⟩
        simp only [lpK] at e
        generalize (exitsOf b).eraseDups = ids at e
        induction ids with
        | nil => cases e
        | cons i ids ih2 =>
          simp only [List.foldr_cons] at e
          cases hj : Nat.beq j i with
          | true => rw [hj] at e; have := Nat.eq_of_beq_eq_true hj; subst this; exact e
          | false => rw [hj] at e; exact ih2 e
  | exit id => intro _ k s h a w c e; exact wp_exit ⟨.ext id, s, h, rfl, c, e⟩
  | ret => intro _ k s h a w c e; exact wp_ret ⟨.ret, s, h, trivial, c, e⟩
  | rangeFunc => intro _ k s h a w c e; simp [execK] at e
  | scope => intro _ k s h a w c e; simp [execK] at e
  | label => intro _ k s h a w c e; simp [execK] at e
  | goto => intro _ k s h a w c e; simp [execK] at e
  | refuse => intro _ k s h a w c e; simp [execK] at e

/-- Slots and heap cut back. -/
theorem mk_take {w : World} {im : Nat → Prop} {ι : Nat → Option Nat} {s : S} {h : H} {v : Value} {t n : Nat} (hr : RepA w im ι h v (s t)) : ∀ l : List Nat, (∀ i ∈ l, refs n (s i) = true) → RepA w im ι (h.take n) v (mk (l.map fun i => (i, s i)) t) := fun l => by
  induction l with
  | nil => intro _; exact .dead _
  | cons i l ih =>
    intro hl
    simp only [List.map_cons, mk]
    cases hb : Nat.beq t i with
    | true => have := Nat.eq_of_beq_eq_true hb; subst this; exact hr.take (hl _ (by simp))
    | false => exact ih fun i hi => hl i (by simp [hi])
theorem CS.cut {s : S} {h : H} {a : Act} {w : World} {l : List Nat} {n : Nat} (c : CS nt w0 im0 ι0 h0 s h a w) (hn : h0.length ≤ n) (hok : ((l.map s).all (refs n) && okH n (h.take n)) = true) :
    CS nt w0 im0 ι0 h0 (pickS l s) (h.take n) a w := by
  obtain ⟨im, ι, c, st⟩ := c
  rw [Bool.and_eq_true] at hok
  refine ⟨im, ι, ⟨c.size, c.defers, fun t => mk_take (c.rep t) l fun i hi => List.all_eq_true.1 hok.1 _ (List.mem_map_of_mem hi), c.heap.take hok.2⟩, st.take hn⟩

theorem loop_ok (hE : EnvOK2 P E) (hC : CallOK P C) (hL : LoopOK P E L) : LoopOK P E (fun f b s h => loopStep E C L (L f b) f b s h) := by
  intro f b s h x sf hf e nt hok hg w0 im0 ι0 h0 a w c
  have hlen : h0.length ≤ h.length := by obtain ⟨_, _, _, st⟩ := c; exact st.len
  simp only [loopStep] at e
  refine LoopWp.round (wp_mono (code_ok hE hC hL hg b hok _ s h a w c e) ?_)
  rintro e' a' w' ⟨z, s', h', hx, hc, hk⟩
  cases z with
  | nrm =>
    cases e' <;> simp only [XR] at hx
    obtain ⟨h2, h3, h4⟩ := bind_some' hk
    simp only [truncK] at h3
    split at h3
    case isFalse => cases h3
    rename_i hcut
    simp only [Option.some.injEq] at h3
    subst h3
    exact hL f b _ _ x sf hf h4 nt hok hg w0 im0 ι0 h0 a' w' (hc.cut hlen hcut)
  | ret =>
    cases e' <;> simp only [XR] at hx
    simp only [Option.some.injEq, Prod.mk.injEq] at hk
    obtain ⟨rfl, rfl, rfl⟩ := hk
    refine ⟨trivial, ?_⟩
    simp only [truncT]
    split
    · rename_i hcut; exact hc.cut hlen hcut
    · obtain ⟨im, ι, c0, st⟩ := hc; exact ⟨im, ι, c0.pick _, st⟩
  | ext j =>
    cases e' <;> simp only [XR] at hx
    simp only [Option.some.injEq, Prod.mk.injEq] at hk
    obtain ⟨rfl, rfl, rfl⟩ := hk
    refine ⟨hx, ?_⟩
    simp only [truncT]
    split
    · rename_i hcut; exact hc.cut hlen hcut
    · obtain ⟨im, ι, c0, st⟩ := hc; exact ⟨im, ι, c0.pick _, st⟩

/-- The results, read off. -/
theorem fin_ok (hT : TOk P E.T) {a : Act} {w : World} {im : Nat → Prop} {ι : Nat → Option Nat} {s : S} {h : H} (c : Conc nt a w im ι s h) : ∀ (rs : List ResultVar) (acc : List A) (vacc : List Value) (r : A × H), acc.length = vacc.length →
    (∀ (i : Nat) v x, vacc[i]? = some v → acc[i]? = some x → RepA w im ι h v x) → finL E.T s h rs acc = some r →
    ∃ vs : List Value, (rs.mapM (fun | .tmp t => pure (a.tmps.getD t undef) | .cell ad t => do loadVar t (← asAddr (a.tmps.getD ad undef)) : ResultVar → Sem Value)).run P w = .ok vs w ∧
      RepA w im ι h (if hh : (vacc.reverse ++ vs).length = 1 then (vacc.reverse ++ vs)[0] else .tuple (vacc.reverse ++ vs).toArray) r.1 ∧ r.2 = h := by
  intro rs
  induction rs with
  | nil =>
    intro acc vacc r hl hr e
    refine ⟨[], by simp, ?_⟩
    simp only [List.append_nil]
    cases acc with
    | nil =>
      simp only [finL, Option.some.injEq] at e
      subst e
      obtain rfl := List.eq_nil_of_length_eq_zero (l := vacc) (by simpa using hl.symm)
      simp only [List.reverse_nil, List.length_nil, Nat.zero_ne_one, dite_false]
      exact ⟨.tup rfl fun i v a hv => by simp at hv, trivial⟩
    | cons x acc =>
      cases vacc with
      | nil => cases hl
      | cons v vacc =>
        cases acc with
        | nil =>
          simp only [finL, Option.some.injEq] at e
          subst e
          obtain rfl := List.eq_nil_of_length_eq_zero (l := vacc) (by simpa using hl.symm)
          exact ⟨by simpa using hr 0 v x rfl rfl, rfl⟩
        | cons y acc =>
          simp only [finL, Option.some.injEq] at e
          subst e
          have hne : ¬ (v :: vacc).reverse.length = 1 := by simp at hl ⊢; intro hh; subst hh; simp at hl
          rw [dif_neg hne]
          refine ⟨.tup (by simp at hl ⊢; omega) fun i u b hu hb => ?_, rfl⟩
          have hil : i < (v :: vacc).length := by have := (Array.getElem?_eq_some_iff.1 hu).1; simpa using this
          rw [List.getElem?_toArray, List.getElem?_reverse hil] at hu
          rw [List.getElem?_reverse (by rw [hl]; exact hil)] at hb
          rw [hl] at hb
          exact hr _ u b hu hb
  | cons rv rs ih =>
    intro acc vacc r hl hr e
    have more : ∀ (v : Value) (x : A), RepA w im ι h v x → finL E.T s h rs (x :: acc) = some r → ((fun | .tmp t => pure (a.tmps.getD t undef) | .cell ad t => do loadVar t (← asAddr (a.tmps.getD ad undef)) : ResultVar → Sem Value) rv).run P w = .ok v w →
        ∃ vs : List Value, ((rv :: rs).mapM (fun | .tmp t => pure (a.tmps.getD t undef) | .cell ad t => do loadVar t (← asAddr (a.tmps.getD ad undef)) : ResultVar → Sem Value)).run P w = .ok vs w ∧
          RepA w im ι h (if hh : (vacc.reverse ++ vs).length = 1 then (vacc.reverse ++ vs)[0] else .tuple (vacc.reverse ++ vs).toArray) r.1 ∧ r.2 = h := fun v x hv hf hrun => by
      obtain ⟨vs, h1, h2, h3⟩ := ih (x :: acc) (v :: vacc) r (by simp [hl]) (fun i u y hu hy => by
        cases i with
        | zero => simp at hu hy; subst hu hy; exact hv
        | succ i => exact hr i u y (by simpa using hu) (by simpa using hy)) hf
      refine ⟨v :: vs, ?_, ?_, h3⟩
      · rw [List.mapM_cons, Sem.run_bind, hrun]
        simp only [Result.andThen_ok, Sem.run_bind, h1, Sem.run_pure]
      · simpa using h2
    cases rv with
    | tmp t =>
      simp only [finL] at e
      exact more _ _ (c.rep t) e (by simp)
    | cell ad t =>
      simp only [finL] at e
      obtain ⟨hk, e⟩ := bif_none e
      obtain ⟨x, h1, h2⟩ := bind_some' e
      obtain ⟨v, h3, h4⟩ := ldA_ok (hT t (isO_ne hk)) (isO_ne hk) c.heap (c.rep ad) h1
      refine more v x h4 h2 ?_
      have hp : ∃ q, a.tmps.getD ad undef = .pointer (some q) := by
        have hra := c.rep ad
        cases hs : s ad with
        | ptr => rw [hs] at hra; exact hra.isPtr
        | ipt => rw [hs] at hra; exact hra.isIpt
        | _ => rw [hs] at h1; simp [ldA] at h1
      obtain ⟨q, hq⟩ := hp
      simp only [hq, asAddr, Sem.run_bind, Sem.run_pure, Result.andThen_ok]
      rw [hq] at h3
      simpa [Instr.loadAt, Instr.sureAddr] using h3
end
end Go.Ab

namespace Go.Ab
open Go
variable [Val]
section
variable {P : Program} {E : Env} {C : CO} {L : LO}

def resF (tmps : Array Value) : ResultVar → Sem Value
  | .tmp t => pure (tmps.getD t undef)
  | .cell ad t => do loadVar t (← asAddr (tmps.getD ad undef))
theorem mapM_eq : ∀ (F G : ResultVar → Sem Value), (∀ rv, F rv = G rv) → ∀ l : List ResultVar, List.mapM F l = List.mapM G l := fun F G hFG l => by rw [funext hFG]
theorem results_run {fn : Func} {tmps : Array Value} {w : World} {vs : List Value} (h : (fn.results.toList.mapM (resF tmps)).run P w = .ok vs w) :
    (results fn tmps).run P w = .ok (if h : vs.length = 1 then vs[0] else .tuple vs.toArray) w := by
  have e : results fn tmps = (do
      let vs ← fn.results.mapM (resF tmps)
      pure (if h : vs.size = 1 then vs[0] else .tuple vs)) := by
    unfold results
    congr 1
  rw [e, Sem.run_bind, ← Array.toArray_toList (xs := fn.results), List.mapM_toArray, Sem.run_map, h]
  simp
theorem results_ok (hT : TOk P E.T) {fn : Func} {nt : Nat} {a : Act} {w : World} {im : Nat → Prop} {ι : Nat → Option Nat} {s : S} {h : H} (c : Conc nt a w im ι s h) {r : A × H}
    (e : finK E fn.results s h = some r) : ∃ v, (results fn a.tmps).run P w = .ok v w ∧ RepA w im ι h v r.1 ∧ r.2 = h := by
  obtain ⟨vs, h1, h2, h3⟩ := fin_ok hT c fn.results.toList [] [] r rfl (fun i v x hv => by simp at hv) e
  rw [mapM_eq _ (resF a.tmps) (fun rv => by cases rv <;> rfl)] at h1
  exact ⟨_, results_run h1, h2, h3⟩

/-- What is asked of the functions done by hand. -/
def PrimOK (P : Program) (E : Env) : Prop := ∀ f g, E.prim f = some g → CallOK P (fun f' args h => if f' = f then g args h else none)

theorem argS_rep {w : World} {im : Nat → Prop} {ι : Nat → Option Nat} {h : H} {vs : List Value} {args : List A} (hl : vs.length = args.length)
    (hr : ∀ (i : Nat) v a, vs[i]? = some v → args[i]? = some a → RepA w im ι h v a) (n : Nat) (t : Nat) :
    RepA w im ι h ((vs.toArray ++ Array.replicate n undef).getD t undef) (argS args t) := by
  unfold argS
  rw [List.getD_eq_getElem?_getD]
  cases ha : args[t]? with
  | none => exact .dead _
  | some a =>
    have ht : t < vs.length := by rw [hl]; exact (List.getElem?_eq_some_iff.1 ha).1
    have hv : vs[t]? = some vs[t] := List.getElem?_eq_getElem ht
    have : (vs.toArray ++ Array.replicate n undef).getD t undef = vs[t] := by
      rw [Array.getD_eq_getD_getElem?, Array.getElem?_append_left (by simpa using ht)]
      simp [hv]
    rw [this]
    exact hr t _ a hv ha

theorem body_ok (hE : EnvOK2 P E) (hC : CallOK P C) (hL : LoopOK P E L) : CallOK P (fun f args h => match E.prim f with | some _ => none | none => bodyK E C L f args h) := by
  intro f args h r e
  simp only at e
  split at e
  · cases e
  rename_i hp
  unfold bodyK at e
  cases hf : E.fn f with
  | none => rw [hf] at e; cases e
  | some fn =>
    rw [hf] at e
    simp only at e
    obtain ⟨h1, h2, h3⟩ := hE.fn f fn hf hp
    cases hb : fn.body with
    | none => rw [hb] at e; cases e
    | some c =>
      rw [hb] at e
      simp only at e
      cases hle : Nat.ble args.length fn.ntmps with
      | false => rw [hle] at e; cases e
      | true =>
        rw [hle] at e
        simp only [cond_true] at e
        refine ⟨⟨fn, h1, h2, by rw [hb]; rfl⟩, fun w im ι vs G hl hr => ?_⟩
        have hle' := Nat.le_of_ble_eq_true hle
        refine calls_of_wp h1 hb (wp_mono (code_ok (w0 := w) (im0 := im) (ι0 := ι) (h0 := h) (nt := fn.ntmps) hE hC hL (fun q t sz hm => hE.gh f q t sz hm fn hf) c (h3 c hb) _ (argS args) h _ w
          ⟨im, ι, ⟨by simp [hl]; omega, rfl, argS_rep hl hr _, G⟩, Stp.refl w im ι h⟩ e) ?_)
        rintro e' a' w' ⟨z, s', h', hx, ⟨im', ι', c', st⟩, hk⟩
        have fin : finK E fn.results s' h' = some r → a'.defers = [] ∧ ∃ v, (results fn a'.tmps).run P w' = .ok v w' ∧ ∃ u, Ending.returned v = .returned u ∧ Fits w im ι h u r.1 w' r.2 := fun hk => by
          obtain ⟨v, h4, h5, h6⟩ := results_ok hE.T c' hk
          exact ⟨c'.defers, v, h4, v, rfl, im', ι', h6 ▸ c'.heap, h6 ▸ h5, h6 ▸ st⟩
        cases z with
        | nrm =>
          cases e' <;> simp only [XR] at hx
          exact fin hk
        | ret =>
          cases e' <;> simp only [XR] at hx
          exact fin hk
        | ext j => cases hk

theorem ev_ok (hE : EnvOK2 P E) (hP : PrimOK P E) : ∀ n, CallOK P (evN E n).1 ∧ LoopOK P E (evN E n).2 := by
  intro n
  induction n with
  | zero =>
    constructor
    · intro f args h r e; simp [evN] at e
    · intro f b s h x s' h' e; simp [evN] at e
  | succ n ih =>
    refine ⟨fun f args h r e => ?_, loop_ok hE ih.1 ih.2⟩
    simp only [evN] at e
    cases hp : E.prim f with
    | some g =>
      rw [hp] at e
      exact hP f g hp f args h r (by simp [e])
    | none =>
      rw [hp] at e
      exact body_ok hE ih.1 ih.2 f args h r (by simp only [hp]; exact e)
end
end Go.Ab

namespace Go.Ab
open Go
variable [Val]
/-- From some round on. -/
def Ev {β : Type} (F : Nat → Option β) (o : Option β) : Prop := ∀ r, o = some r → ∃ n, ∀ m, n ≤ m → F m = some r
section
variable {β γ : Type}
theorem Ev.same {F : Nat → Option β} {o : Option β} (h : ∀ m, F m = o) : Ev F o := fun r hr => ⟨0, fun m _ => (h m).trans hr⟩
theorem Ev.none {F : Nat → Option β} : Ev F none := fun r hr => by cases hr
theorem Ev.some {F : Nat → Option β} {r : β} (h : Ev F (some r)) : ∃ n, ∀ m, n ≤ m → F m = some r := h r rfl
theorem Ev.bind {F : Nat → Option β} {o : Option β} {G : Nat → β → Option γ} {k : β → Option γ} (h : Ev F o) (hk : ∀ b, Ev (fun m => G m b) (k b)) : Ev (fun m => (F m).bind (G m)) (o.bind k) := by
  intro r hr
  obtain ⟨b, h1, h2⟩ := bind_some' hr
  obtain ⟨n1, hn1⟩ := h b h1
  obtain ⟨n2, hn2⟩ := hk b r h2
  exact ⟨max n1 n2, fun m hm => by simp only [hn1 m (by omega)]; exact hn2 m (by omega)⟩
theorem Ev.map {F : Nat → Option β} {o : Option β} (g : β → γ) (h : Ev F o) : Ev (fun m => (F m).map g) (o.map g) := by
  intro r hr
  cases o with
  | none => cases hr
  | some b =>
    obtain ⟨n, hn⟩ := h b rfl
    exact ⟨n, fun m hm => by simp only [hn m hm]; exact hr⟩
theorem Ev.bif {c : Bool} {F G : Nat → Option β} {x y : Option β} (h1 : Ev F x) (h2 : Ev G y) : Ev (fun m => bif c then F m else G m) (bif c then x else y) := by
  cases c with
  | true => exact h1
  | false => exact h2
theorem Ev.congr {F F' : Nat → Option β} {o o' : Option β} (h : Ev F o) (hF : ∀ m, F' m = F m) (ho : o' = o) : Ev F' o' := by
  subst ho
  have : F' = F := funext hF
  rw [this]; exact h
end
section
variable {P : Program} {E : Env} {C : CO} {L : LO} {Cs : Nat → CO} {Ls : Nat → LO} {β : Type}
theorem runP_ev (hC : ∀ f a h, Ev (fun m => Cs m f a h) (C f a h)) (f : FuncId) (a : List A) : Ev (fun m => runP (Cs m) f a) (runP C f a) := by
  unfold runP
  exact (hC f a []).bind fun b => .same fun m => rfl
theorem callP_ev (hC : ∀ f a h, Ev (fun m => Cs m f a h) (C f a h)) (sl : Bool) (f : FuncId) (a : List A) (h : H) : Ev (fun m => callP (Cs m) sl f a h) (callP C sl f a h) := by
  unfold callP
  exact (Ev.same fun m => rfl).bind fun b => (runP_ev hC f b).bind fun v => .same fun m => rfl
theorem callK_ev (hC : ∀ f a h, Ev (fun m => Cs m f a h) (C f a h)) (f : FuncId) (a : List A) (h : H) : Ev (fun m => callK (Cs m) f a h) (callK C f a h) := by
  unfold callK
  exact (Ev.same fun m => rfl).bind fun b => (hC f b []).bind fun v => .same fun m => rfl
theorem callS_ev (hC : ∀ f a h, Ev (fun m => Cs m f a h) (C f a h)) (f : FuncId) (a : List A) (h : H) : Ev (fun m => callS (Cs m) f a h) (callS C f a h) := by
  unfold callS
  exact (hC f a h).map _
theorem callOp_ev (hC : ∀ f a h, Ev (fun m => Cs m f a h) (C f a h)) (f : FuncId) (a : List A) (h : H) (k : A → H → Option β) : Ev (fun m => callOp E (Cs m) f a h k) (callOp E C f a h k) := by
  unfold callOp
  cases E.way f with
  | pure sl => exact (callP_ev hC sl f a h).bind fun b => .same fun m => rfl
  | keep => exact (callK_ev hC f a h).bind fun b => .same fun m => rfl
  | st => exact (callS_ev hC f a h).bind fun b => .same fun m => rfl
  | rd => exact .same fun m => rfl
  | psh => exact .same fun m => rfl
theorem callV_ev (hC : ∀ f a h, Ev (fun m => Cs m f a h) (C f a h)) (W : FuncId → Way) (x : A) (a : List A) (h : H) : Ev (fun m => callV (Cs m) W x a h) (callV C W x a h) := by
  cases x with
  | fn f caps =>
    simp only [callV]
    cases W f with
    | pure sl => exact (callP_ev hC sl f _ h).map _
    | keep => exact callK_ev hC f _ h
    | st => exact callS_ev hC f _ h
    | rd => exact .none
    | psh => exact .none
  | _ => exact .none
theorem opV_ev (hC : ∀ f a h, Ev (fun m => Cs m f a h) (C f a h)) (o : Oper) (s : S) (h : H) : Ev (fun m => opV E (Cs m) o s h) (opV E C o s h) := by
  unfold opV
  cases o.op with
  | call c =>
    obtain ⟨callee, args, argTypes⟩ := c
    cases callee with
    | invoke r m => exact .same fun m => rfl
    | value f =>
      cases f <;> simp only [opK]
      all_goals first
        | exact callOp_ev hC _ _ _ _
        | exact (callV_ev hC _ _ _ _).bind fun b => .same fun m => rfl
        | skip
      all_goals (try split)
      all_goals first
        | exact callOp_ev hC _ _ _ _
        | exact (callV_ev hC _ _ _ _).bind fun b => .same fun m => rfl
        | exact .same fun m => rfl
    | builtin b =>
      cases b
      all_goals first
        | exact .same fun m => rfl
        | simp only [opK]
          (repeat' split) <;> exact .same fun m => rfl
  | makeFunc fn first caps => cases fn <;> exact .same fun m => rfl
  | slice t x lo hi mx => cases mx <;> exact .same fun m => rfl
  | _ => exact .same fun m => rfl
theorem stepV_ev (hC : ∀ f a h, Ev (fun m => Cs m f a h) (C f a h)) (ops : Array Oper) (o : Oper) (s : S) (h : H) : Ev (fun m => stepV E (Cs m) ops o s h) (stepV E C ops o s h) := by
  unfold stepV
  split
  · exact (opV_ev hC o s h).map _
  · split
    · exact .none
    · split
      · exact ((opV_ev hC o s h).map _).bif (.same fun m => rfl)
      · exact .none
theorem foldV_ev (hC : ∀ f a h, Ev (fun m => Cs m f a h) (C f a h)) (ops : Array Oper) : ∀ (l : List Nat) (s : S) (h : H), Ev (fun m => foldV E (Cs m) ops l s h) (foldV E C ops l s h)
  | [], s, h => .same fun m => rfl
  | i :: l, s, h => by
    simp only [foldV]
    exact (Ev.same fun m => rfl).bind fun o => (stepV_ev hC ops o s h).bind fun r => foldV_ev hC ops l r.1 r.2
theorem opsK_ev (hC : ∀ f a h, Ev (fun m => Cs m f a h) (C f a h)) (ops : Array Oper) (s : S) (h : H) {kn : Nat → S → H → Option β} {k : S → H → Option β} (hk : ∀ s h, Ev (fun m => kn m s h) (k s h)) :
    Ev (fun m => opsK E (Cs m) ops ops.toList s h (kn m)) (opsK E C ops ops.toList s h k) := by
  have e : ∀ (C : CO) (k : S → H → Option β), opsK E C ops ops.toList s h k = (foldV E C ops (List.range' 0 ops.size) s h).bind fun r => k r.1 r.2 := fun C k => by
    have := opsK_fold (E := E) (C := C) ops k ops.size 0 s h (by omega)
    rwa [List.drop_zero] at this
  rw [e]
  simp only [e]
  exact (foldV_ev hC ops _ s h).bind fun r => hk r.1 r.2
theorem opDV_ev (hC : ∀ f a h, Ev (fun m => Cs m f a h) (C f a h)) (b : Nat) (o : Oper) (s : S) (h : H) : Ev (fun m => opDV E (Cs m) b o s h) (opDV E C b o s h) := by
  unfold opDV
  have hk := opV_ev (E := E) hC o s h
  unfold opV at hk
  revert hk
  cases o.op with
  | call c =>
    obtain ⟨callee, args, argTypes⟩ := c
    intro hk
    cases callee with
    | invoke r m => exact hk
    | value f =>
      cases f with
      | func g =>
        simp only [opD]
        split
        · exact Ev.bif ((callP_ev hC _ _ _ _).bind fun b => .same fun m => rfl) .none
        · exact .same fun m => rfl
        · exact (callK_ev hC _ _ _).bind fun b => .same fun m => rfl
        · exact .same fun m => rfl
        · exact .none
      | _ => exact .none
    | builtin bi =>
      cases bi with
      | append =>
        simp only [opD]
        split
        · exact Ev.bif .none hk
        · exact .none
      | _ => exact hk
  | alloc t => intro _; exact .same fun m => rfl
  | box t x => intro _; exact .same fun m => rfl
  | buildSlice t len parts => intro _; exact .same fun m => rfl
  | makeSlice t l c => intro _; exact .same fun m => rfl
  | _ => intro hk; exact hk
theorem stepD_ev (hC : ∀ f a h, Ev (fun m => Cs m f a h) (C f a h)) (ops : Array Oper) (b : Nat) (o : Oper) (s : S) (h : H) : Ev (fun m => stepD E (Cs m) ops b o s h) (stepD E C ops b o s h) := by
  unfold stepD
  split
  · exact (opDV_ev hC b o s h).map _
  · split
    · exact .none
    · split
      · exact ((opDV_ev hC b o s h).map _).bif (.same fun m => rfl)
      · exact .none
theorem foldD_ev (hC : ∀ f a h, Ev (fun m => Cs m f a h) (C f a h)) (ops : Array Oper) (b : Nat) : ∀ (l : List Nat) (s : S) (h : H), Ev (fun m => foldD E (Cs m) ops b l s h) (foldD E C ops b l s h)
  | [], s, h => .same fun m => rfl
  | i :: l, s, h => by
    simp only [foldD]
    exact (Ev.same fun m => rfl).bind fun o => (stepD_ev hC ops _ o s h).bind fun r => foldD_ev hC ops b l r.1 r.2
theorem opsD_ev (hC : ∀ f a h, Ev (fun m => Cs m f a h) (C f a h)) (ops : Array Oper) (b : Nat) (l : List Nat) (s : S) (h : H) {kn : Nat → S → H → Option β} {k : S → H → Option β} (hk : ∀ s h, Ev (fun m => kn m s h) (k s h)) :
    Ev (fun m => opsD E (Cs m) ops b l s h (kn m)) (opsD E C ops b l s h k) := by
  rw [opsD_fold]
  simp only [opsD_fold]
  exact (foldD_ev hC ops b l s h).bind fun r => hk r.1 r.2
theorem ghK_ev {kn : Nat → S → H → Option β} {k : S → H → Option β} (hk : ∀ s h, Ev (fun m => kn m s h) (k s h)) : ∀ (g : List Gh) (s : S) (h : H), Ev (fun m => ghK g s h (kn m)) (ghK g s h k)
  | [], s, h => hk s h
  | .fz t :: g, s, h => ghK_ev hk g _ _
  | .onil t sz :: g, s, h => by
    simp only [ghK]
    cases s t with
    | _ => exact ghK_ev hk g _ _
  | .onilAt t off sz :: g, s, h => by
    simp only [ghK]
    exact (Ev.same fun m => rfl).bind fun h => ghK_ev hk g _ h
  | .fzAt t off n :: g, s, h => ghK_ev hk g _ _
  | .imAt t off n :: g, s, h => by
    simp only [ghK]
    exact (Ev.same fun m => rfl).bind fun v => ghK_ev hk g _ _
  | .im t :: g, s, h => by
    simp only [ghK]
    exact (Ev.same fun m => rfl).bind fun v => ghK_ev hk g _ _
theorem lpK_ev {F : Nat → Option (X × S × H)} {o : Option (X × S × H)} (hF : Ev F o) (ids : List Nat) {kn : Nat → X → S → H → Option β} {k : X → S → H → Option β} (hk : ∀ x s h, Ev (fun m => kn m x s h) (k x s h)) :
    Ev (fun m => lpK (F m) ids (kn m)) (lpK o ids k) := by
  intro r hr
  cases o with
  | none => simp [lpK] at hr
  | some t =>
    obtain ⟨n1, hn1⟩ := hF t rfl
    have two : Ev (fun m => lpK (some t) ids (kn m)) (lpK (some t) ids k) := by
      obtain ⟨x, s, h⟩ := t
      cases x with
      | nrm => exact .none
      | ret => exact hk _ _ _
      | ext j =>
        simp only [lpK]
        clear hr hF hn1
        induction ids with
        | nil => exact .none
        | cons i ids ih =>
          simp only [List.foldr_cons]
          exact (hk _ _ _).bif ih
    obtain ⟨n2, hn2⟩ := two r hr
    exact ⟨max n1 n2, fun m hm => by simp only [hn1 m (by omega)]; exact hn2 m (by omega)⟩
theorem execK_ev (hC : ∀ f a h, Ev (fun m => Cs m f a h) (C f a h)) (hL : ∀ f b s h, Ev (fun m => Ls m f b s h) (L f b s h)) (f : FuncId) : ∀ (c : Code) (s : S) (h : H) {kn : Nat → X → S → H → Option β} {k : X → S → H → Option β},
    (∀ x s h, Ev (fun m => kn m x s h) (k x s h)) → Ev (fun m => execK E (Cs m) (Ls m) f c s h (kn m)) (execK E C L f c s h k) := by
  intro c
  induction c with
  | skip => intro s h kn k hk; exact hk _ _ _
  | region id ops draw =>
    intro s h kn k hk
    simp only [execK]
    cases E.ord f id with
    | none => exact ghK_ev (kn := fun m s h => opsK E (Cs m) ops ops.toList s h (kn m .nrm)) (fun s h => opsK_ev hC ops s h fun s h => hk _ s h) _ s h
    | some l => exact ghK_ev (kn := fun m s h => opsD E (Cs m) ops h.length l s (h ++ dumm E ops) fun s' h' => ckD ((needP E ops l).flatMap (pairD E ops h.length s')) (kn m .nrm s' h')) (fun s h => opsD_ev (kn := fun m s' h' => ckD ((needP E ops l).flatMap (pairD E ops h.length s')) (kn m .nrm s' h')) hC ops _ l s _ fun s' h' => Ev.bif (hk _ s' h') .none) _ s h
  | seq a b iha ihb =>
    intro s h kn k hk
    simp only [execK]
    refine iha s h (fun x s h => ?_)
    cases x with
    | nrm => exact ihb s h hk
    | ret => exact hk _ _ _
    | ext j => exact hk _ _ _
  | cond x a b iha ihb =>
    intro s h kn k hk
    simp only [execK]
    cases evA s x with
    | bool v => cases v with
      | true => exact iha s h hk
      | false => exact ihb s h hk
    | _ => exact .none
  | block id b ih =>
    intro s h kn k hk
    simp only [execK]
    refine ih s h (fun x s h => ?_)
    cases x with
    | nrm => exact hk _ _ _
    | ret => exact hk _ _ _
    | ext j => exact (hk _ _ _).bif (hk _ _ _)
  | loop b ih =>
    intro s h kn k hk
    simp only [execK]
    exact lpK_ev (hL _ _ _ _) _ hk
  | exit id => intro s h kn k hk; exact hk _ _ _
  | ret => intro s h kn k hk; exact hk _ _ _
  | rangeFunc => intro s h kn k hk; exact .none
  | scope => intro s h kn k hk; exact .none
  | label => intro s h kn k hk; exact .none
  | goto => intro s h kn k hk; exact .none
  | refuse => intro s h kn k hk; exact .none
theorem loopStep_ev (hC : ∀ f a h, Ev (fun m => Cs m f a h) (C f a h)) (hL : ∀ f b s h, Ev (fun m => Ls m f b s h) (L f b s h)) (f : FuncId) (b : Code) (s : S) (h : H) {Fn : Nat → S → H → Option (X × S × H)} {F : S → H → Option (X × S × H)}
    (hF : ∀ s h, Ev (fun m => Fn m s h) (F s h)) : Ev (fun m => loopStep E (Cs m) (Ls m) (Fn m) f b s h) (loopStep E C L F f b s h) := by
  unfold loopStep
  refine execK_ev hC hL f b s h (fun x s h => ?_)
  cases x with
  | nrm => exact (Ev.same fun m => rfl).bind fun h => hF _ h
  | ret => exact .same fun m => rfl
  | ext j => exact .same fun m => rfl
theorem bodyK_ev (hC : ∀ f a h, Ev (fun m => Cs m f a h) (C f a h)) (hL : ∀ f b s h, Ev (fun m => Ls m f b s h) (L f b s h)) (f : FuncId) (args : List A) (h : H) :
    Ev (fun m => bodyK E (Cs m) (Ls m) f args h) (bodyK E C L f args h) := by
  unfold bodyK
  split
  · split
    · refine Ev.bif (execK_ev hC hL f _ _ _ (fun x s h => ?_)) .none
      cases x <;> exact .same fun m => rfl
    · exact .none
  · exact .none

/-- What the rounds come to in the end. -/
noncomputable def limO {β : Type} (F : Nat → Option β) : Option β := open Classical in if hh : ∃ r n, ∀ m, n ≤ m → F m = some r then some hh.choose else none
theorem limO_ev {β : Type} (F : Nat → Option β) : Ev F (limO F) := by
  intro r hr
  unfold limO at hr
  split at hr
  · rename_i hh
    simp only [Option.some.injEq] at hr
    subst hr
    exact hh.choose_spec
  · cases hr
theorem limO_of {β : Type} {F : Nat → Option β} {r : β} {n : Nat} (h : ∀ m, n ≤ m → F m = some r) : limO F = some r := by
  unfold limO
  have hh : ∃ r n, ∀ m, n ≤ m → F m = some r := ⟨r, n, h⟩
  rw [dif_pos hh]
  obtain ⟨n', hn'⟩ := hh.choose_spec
  have h1 := hn' (max n n') (by omega)
  rw [h _ (by omega)] at h1
  exact h1.symm
noncomputable def CL (E : Env) : CO := fun f a h => limO fun n => (evN E n).1 f a h
noncomputable def LL (E : Env) : LO := fun f b s h => limO fun n => (evN E n).2 f b s h
theorem CL_ev (f a h) : Ev (fun n => (evN E n).1 f a h) (CL E f a h) := limO_ev _
theorem LL_ev (f b s h) : Ev (fun n => (evN E n).2 f b s h) (LL E f b s h) := limO_ev _
theorem limO_succ {β : Type} {F : Nat → Option β} {r : β} (h : ∃ n, ∀ m, n ≤ m → F (m + 1) = some r) : limO F = some r := by
  obtain ⟨n, hn⟩ := h
  exact limO_of (n := n + 1) fun m hm => by
    obtain ⟨m, rfl⟩ : ∃ j, m = j + 1 := ⟨m - 1, by omega⟩
    exact hn m (by omega)
/-- A body's run is the call's. -/
theorem CL_body {f : FuncId} {args : List A} {h : H} {r : A × H} (hp : E.prim f = none) (e : bodyK E (CL E) (LL E) f args h = some r) : CL E f args h = some r := by
  obtain ⟨n, hn⟩ := bodyK_ev (Cs := fun n => (evN E n).1) (Ls := fun n => (evN E n).2) CL_ev LL_ev f args h r e
  exact limO_succ ⟨n, fun m hm => by simp only [evN, hp]; exact hn m hm⟩
theorem CL_prim {f : FuncId} {args : List A} {h : H} {r : A × H} {g} (hp : E.prim f = some g) (e : g args h = some r) : CL E f args h = some r :=
  limO_succ ⟨0, fun m hm => by simp only [evN, hp]; exact e⟩
/-- A round's run is the loop's. -/
theorem LL_step {f : FuncId} {b : Code} {s : S} {h : H} {r : X × S × H} (e : loopStep E (CL E) (LL E) (LL E f b) f b s h = some r) : LL E f b s h = some r := by
  obtain ⟨n, hn⟩ := loopStep_ev (Cs := fun n => (evN E n).1) (Ls := fun n => (evN E n).2) CL_ev LL_ev f b s h (Fn := fun n => (evN E n).2 f b) (F := LL E f b) (fun s h => LL_ev f b s h) r e
  exact limO_succ ⟨n, fun m hm => by simp only [evN]; exact hn m hm⟩
/-- The evaluator is right of the program. -/
theorem CL_ok (hE : EnvOK2 P E) (hP : PrimOK P E) : CallOK P (CL E) := by
  intro f args h r e
  obtain ⟨n, hn⟩ := CL_ev (E := E) f args h r e
  exact (ev_ok hE hP n).1 f args h r (hn n (Nat.le_refl n))
end
end Go.Ab

namespace Go.Ab
open Go
/-! Tables, and what the kernel looks at of a program. -/
inductive BT (α : Type) where
  | leaf (k : Nat) (v : α)
  | node (k : Nat) (l r : BT α)
def BT.get {α : Type} (d : α) : BT α → Nat → α
  | .leaf k v, i => bif Nat.beq i k then v else d
  | .node k l r, i => bif Nat.blt i k then l.get d i else r.get d i
def BT.all {α : Type} (p : Nat → α → Bool) : BT α → Bool
  | .leaf k v => p k v
  | .node _ l r => l.all p && r.all p
theorem BT.get_of_all {α : Type} {d : α} {p : Nat → α → Bool} : ∀ {t : BT α}, t.all p = true → ∀ i, t.get d i = d ∨ p i (t.get d i) = true
  | .leaf k v, h, i => by
    simp only [BT.get]
    cases hb : Nat.beq i k with
    | false => exact .inl rfl
    | true => have := Nat.eq_of_beq_eq_true hb; subst this; exact .inr h
  | .node k l r, h, i => by
    simp only [BT.all, Bool.and_eq_true] at h
    simp only [BT.get]
    cases Nat.blt i k with
    | true => exact BT.get_of_all h.1 i
    | false => exact BT.get_of_all h.2 i
theorem BT.get_of_allP {α : Type} {d : α} {p : Nat → α → Prop} : ∀ {t : BT α}, (∀ i, t.get d i = d ∨ p i (t.get d i)) → ∀ i, t.get d i = d ∨ p i (t.get d i) := fun h => h

def zB : Value → A → Bool
  | .int k n, .int k' m => decide (k = k' ∧ n = m)
  | .bool b, .bool c => b == c
  | .slice none 0 0, .nils => true
  | _, .dead => true
  | _, _ => false
theorem zB_ok {v : Value} {a : A} (h : zB v a = true) : zRel v a := by
  unfold zB at h
  split at h
  · simpa [zRel] using h
  · simpa [zRel] using h
  · trivial
  · unfold zRel; split <;> simp_all
  · cases h
def all2 {α β : Type} (f : α → β → Bool) : List α → List β → Bool
  | [], [] => true
  | a :: as, b :: bs => f a b && all2 f as bs
  | _, _ => false
theorem all2_ok {α β : Type} {f : α → β → Bool} : ∀ {as : List α} {bs : List β}, all2 f as bs = true → as.length = bs.length ∧ ∀ (i : Nat) a b, as[i]? = some a → bs[i]? = some b → f a b = true
  | [], [], _ => ⟨rfl, fun i a b h => by simp at h⟩
  | a :: as, b :: bs, h => by
    simp only [all2, Bool.and_eq_true] at h
    obtain ⟨h1, h2⟩ := all2_ok h.2
    refine ⟨by simp [h1], fun i x y hx hy => ?_⟩
    cases i with
    | zero => simp at hx hy; subst hx hy; exact h.1
    | succ i => exact h2 i x y (by simpa using hx) (by simpa using hy)
  | [], _ :: _, h => by cases h
  | _ :: _, [], h => by cases h
def dB (P : Program) (t : Nat) : TD → Bool
  | .int k => match P.underlying t with | some (.int k') => decide (k' = k) | _ => false
  | .bool => match P.underlying t with | some .bool => true | _ => false
  | .iface => match P.underlying t with | some (.interface _) => true | _ => false
  | .one => match P.underlying t with | some (.struct _) => false | some (.array _ _) => false | some (.interface _) => false | some _ => true | none => false
  | .slice e => match P.underlying t with | some (.slice e') => Nat.beq e' e | _ => false
  | .arr n e => match P.underlying t with | some (.array n' e') => Nat.beq n' n && Nat.beq e' e | _ => false
  | .struct fs => match P.underlying t with
    | some (.struct fields) => all2 (fun f p => Nat.beq f.offset p.1 && (match P.info? f.type with | some j => Nat.beq j.size p.2 | none => false) && !(Nat.beq p.2 0)) fields.toList fs
    | _ => false
  | .other => true
theorem dB_ok {P : Program} {t : Nat} {d : TD} (h : dB P t d = true) : DOk P t d := by
  unfold dB at h
  cases d with
  | int k =>
    simp only at h
    split at h
    · rename_i hu; simp only [DOk, hu, of_decide_eq_true h]
    · cases h
  | bool =>
    simp only at h
    split at h
    · rename_i hu; exact hu
    · cases h
  | one =>
    simp only at h
    split at h
    · cases h
    · cases h
    · cases h
    · rename_i d h1 h2 h3 hu
      refine ⟨d, hu, ?_⟩
      cases d <;> first | rfl | (exfalso; simp_all)
    · cases h
  | iface =>
    simp only at h
    split at h
    · rename_i ms hu; exact ⟨ms, hu⟩
    · cases h
  | slice e =>
    simp only at h
    split at h
    · rename_i hu; simp only [DOk, hu, Nat.eq_of_beq_eq_true h]
    · cases h
  | arr n e =>
    simp only at h
    split at h
    · rename_i hu
      rw [Bool.and_eq_true] at h
      simp only [DOk, hu, Nat.eq_of_beq_eq_true h.1, Nat.eq_of_beq_eq_true h.2]
    · cases h
  | struct fs =>
    simp only at h
    split at h
    · rename_i fields hu
      obtain ⟨h1, h2⟩ := all2_ok h
      refine ⟨fields, hu, by simpa using h1, fun i f p hf hp => ?_⟩
      have := h2 i f p (by simpa using hf) hp
      simp only [Bool.and_eq_true] at this
      obtain ⟨⟨h3, h4⟩, h5⟩ := this
      refine ⟨Nat.eq_of_beq_eq_true h3, ?_, ?_⟩
      · split at h4
        · rename_i j hj; exact ⟨j, hj, Nat.eq_of_beq_eq_true h4⟩
        · cases h4
      · intro h0; rw [h0] at h5; cases h5
    · cases h
  | other => trivial
def tB (P : Program) (t : Nat) (x : TI) : Bool :=
  match P.info? t with
  | none => false
  | some i => Nat.beq i.size x.size && Nat.beq i.bytes x.bytes && Nat.beq x.size x.zero.length && (match i.zero with
    | none => false
    | some z => all2 (fun v a => v.oneCell' && zB v a) z.cells.toList x.zero) && dB P t x.d
theorem tB_ok {P : Program} {t : Nat} {x : TI} (h : tB P t x = true) : TOkAt P t x := by
  unfold tB at h
  split at h
  · cases h
  rename_i i hi
  simp only [Bool.and_eq_true] at h
  obtain ⟨⟨⟨⟨h1, h2⟩, h3⟩, h4⟩, h5⟩ := h
  split at h4
  · cases h4
  rename_i z hz
  obtain ⟨h6, h7⟩ := all2_ok h4
  refine ⟨⟨i, hi, Nat.eq_of_beq_eq_true h1, Nat.eq_of_beq_eq_true h2, z, hz, by simpa using h6, Nat.eq_of_beq_eq_true h3, fun j v hv => ?_, fun j v a hv ha => ?_⟩, dB_ok h5⟩
  · have hlt : j < x.zero.length := by
      have := (Array.getElem?_eq_some_iff.1 hv).1
      rw [← h6]; simpa using this
    have := h7 j v x.zero[j] (by simpa using hv) (List.getElem?_eq_getElem hlt)
    rw [Bool.and_eq_true] at this
    exact this.1
  · have := h7 j v a (by simpa using hv) ha
    rw [Bool.and_eq_true] at this
    exact zB_ok this.2
theorem TOk_of {P : Program} {tr : BT TI} (h : tr.all (tB P) = true) : TOk P (tr.get {}) := by
  intro t ht
  rcases BT.get_of_all (d := {}) h t with h0 | h0
  · rw [h0] at ht; exact absurd rfl ht
  · exact tB_ok h0
/-- What is looked at of a function. -/
def fB (E : Env) (f : Nat) (fn : Func) : Bool :=
  !(fn.name == "runtime.NumGoroutine") && (match fn.body with | some c => okCode E f fn.ntmps c | none => true)
/-! Tables of a seat. -/
def lvF (l : List (Nat × List Nat × List Nat)) (r : Nat) : List Nat × List Nat := match l.find? fun p => Nat.beq p.1 r with | some p => p.2 | none => ([], [])
def ordF (l : List (Nat × List Nat)) (r : Nat) : Option (List Nat) := match l.find? fun p => Nat.beq p.1 r with | some p => some p.2 | none => none
def ghF (l : List (Nat × List Gh)) (r : Nat) : List Gh := match l.find? fun p => Nat.beq p.1 r with | some p => p.2 | none => []
def BT.AllP {α : Type} (p : Nat → α → Prop) : BT α → Prop
  | .leaf k v => p k v
  | .node _ l r => l.AllP p ∧ r.AllP p
theorem BT.get_of_AllP {α : Type} {d : α} {p : Nat → α → Prop} : ∀ {t : BT α}, t.AllP p → ∀ i, t.get d i = d ∨ p i (t.get d i)
  | .leaf k v, h, i => by
    simp only [BT.get]
    cases hb : Nat.beq i k with
    | false => exact .inl rfl
    | true => have := Nat.eq_of_beq_eq_true hb; subst this; exact .inr h
  | .node k l r, h, i => by
    simp only [BT.get]
    cases Nat.blt i k with
    | true => exact BT.get_of_AllP h.1 i
    | false => exact BT.get_of_AllP h.2 i
/-- What EnvOK2 asks of a function. -/
def FnOK (P : Program) (E : Env) (k : Nat) (o : Option Func) : Prop := ∀ fn, o = some fn → P.funcs[k]? = some fn ∧ (fn.name == "runtime.NumGoroutine") = false ∧ ∀ c, fn.body = some c → okCode E k fn.ntmps c = true
theorem fnLeaf {P : Program} {E : Env} {k : Nat} {fn0 : Func} (h1 : P.funcs[k]? = some fn0) (h2 : fB E k fn0 = true) : FnOK P E k (some fn0) := fun fn h => by
  cases h
  simp only [fB, Bool.and_eq_true, Bool.not_eq_true'] at h2
  exact ⟨h1, h2.1, fun c hc => by have := h2.2; rw [hc] at this; exact this⟩
def ghB (fnT : BT (Option Func)) (gh : BT (List (Nat × List Gh))) : Bool := gh.all fun f l => match fnT.get none f with
  | some fn => l.all fun p => p.2.all fun g => match g with | .onil t _ => Nat.blt t fn.ntmps | _ => true
  | none => true
theorem gh_of {fnT : BT (Option Func)} {gh : BT (List (Nat × List Gh))} (h : ghB fnT gh = true) (f r t sz : Nat) (hm : Gh.onil t sz ∈ ghF (gh.get [] f) r) (fn : Func) (hf : fnT.get none f = some fn) : t < fn.ntmps := by
  unfold ghF at hm
  split at hm
  case h_2 => cases hm
  rename_i p hp
  have hmem := List.mem_of_find?_eq_some hp
  rcases BT.get_of_all (d := []) h f with h0 | h0
  · rw [h0] at hmem; cases hmem
  · rw [hf] at h0
    have := List.all_eq_true.1 (List.all_eq_true.1 h0 p hmem) _ hm
    simpa using this
def isPshW : Way → Bool | .psh => true | _ => false
def isRdW : Way → Bool | .rd => true | _ => false
theorem way_in {q : Way → Bool} (hq : q .st = false) {tr : BT Way} {l : List Nat} (h : (tr.all fun k x => !(q x) || l.contains k) = true) {f : Nat} (hf : q (tr.get .st f) = true) : f ∈ l := by
  rcases BT.get_of_all (d := Way.st) h f with h0 | h0
  · rw [h0, hq] at hf; cases hf
  · rw [hf] at h0
    simpa using h0
theorem eq_of_beqs {l : List Nat} {t : Nat} (h : (l.any fun k => Nat.beq t k) = true) : t ∈ l := by
  obtain ⟨k, h1, h2⟩ := List.any_eq_true.1 h
  rw [Nat.eq_of_beq_eq_true h2]; exact h1
end Go.Ab
