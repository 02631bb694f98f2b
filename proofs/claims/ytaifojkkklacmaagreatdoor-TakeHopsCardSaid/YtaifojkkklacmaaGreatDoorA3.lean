/- Library functions (slices.Clone, Sort, Compact) and facts of closed calls, for the evaluator. -/
import Derived.Test.YtaifojkkklacmaaGreatDoorA2
import Derived.Lib.SlicesCompact
import Derived.Lib.SliceRun
import Derived.Sort.Row
import Derived.Sort.Grow
import Derived.Shelf.Slices.CompactI
set_option linter.unusedVariables false
set_option linter.unusedSimpArgs false
set_option linter.unusedSectionVars false
set_option linter.unnecessarySimpa false
namespace Go.Ab
open Go
/-! What the functions done by hand come to. -/
/-- slices.Clone -/
def cloneP (sz bytes : Nat) (args : List A) (h : H) : Option (List (List A)) := match args with
  | [x] => (rowsA x h).bind fun ys => if ys.all (fun r => r.length == sz) = true ∧ 0 < sz ∧ 0 < bytes ∧ ys.length * bytes ≤ 2 ^ 46 then some ys else none
  | _ => none
def intRow : List A → Option Int
  | [.int .i64 n] => some n
  | _ => none
def insI (x : Int) : List Int → List Int
  | [] => [x]
  | y :: l => bif decide (x ≤ y) then x :: y :: l else y :: insI x l
def sortI : List Int → List Int
  | [] => []
  | x :: l => insI x (sortI l)
def rowI (n : Int) : List A := [.int .i64 n]
/-- slices.Sort of ints, in place -/
def sortA (args : List A) (h : H) : Option (A × H) := match args with
  | [.own id off len] => match h[id]? with
    | some o => bif Nat.beq o.sz 1 && !o.fz && Nat.beq off 0 && Nat.beq len o.rows.length && Nat.blt len 1048576 then (o.rows.mapM intRow).map fun l => (.tup [], h.set id ⟨1, false, (sortI l).map rowI⟩) else none
    | none => none
  | _ => none
/-- slices.Compact of ints: the slice's object is let go -/
def compactA (args : List A) (h : H) : Option (A × H) := match args with
  | [.own id off len] => match h[id]? with
    | some o => bif Nat.beq o.sz 1 && !o.fz && Nat.beq off 0 && Nat.beq len o.rows.length && Nat.blt len 1048576 then bif Nat.beq len 0 then some (.own id 0 0, h) else (o.rows.mapM intRow).map fun l => (.own h.length 0 (Lib.compact l).length, h.set id (Obj.mk 1 true (o.rows ++ [[]])) ++ [Obj.mk 1 false ((Lib.compact l).map rowI)]) else none
    | none => none
  | _ => none
/-- script.field: a number within its bounds -/
def fieldR (args : List A) (h : H) : Option A := match args with
  | [_, .int .i64 n, .int .i64 lo, .int .i64 hi, _] => bif decide (lo ≤ n) && decide (n ≤ hi) then some .nilI else none
  | _ => none
/-- (*taker).topic -/
def topicR (a1 b1 a2 b2 sz : Nat) (args : List A) (h : H) : Option A := match args with
  | [p] => (fadA a1 p).bind fun x => (fadA b1 x).bind fun a => (ldA false 1 a h).bind fun l => (fadA a2 p).bind fun y => (fadA b2 y).bind fun b => (ldA false 1 b h).bind fun i => iadA sz l i h
  | _ => none
end Go.Ab

namespace Go.Ab
open Go
variable [Val]
/-! slices.Clone, whatever the element type. -/
/-- An environment with types alone. -/
def E0 (T : Nat → TI) : Env := { fn := fun _ => none, eqT := fun _ => false, prim := fun _ => none, gh := fun _ _ => [], T := T, way := fun _ => .st, live := fun _ _ => [], liveX := fun _ _ => [] }
def C0 : CO := fun _ _ _ => none
theorem C0_ok {P : Program} : CallOK P C0 := fun f a h r e => by cases e
theorem E0_ok {P : Program} {T : Nat → TI} (hT : TOk P T) : EnvOK P (E0 T) where
  T := hT
  eq := fun t fs h => by cases h
  rd := fun f h => by cases h
  sym := fun op x y a h => by cases h
  symC := fun k x a h => by cases h
  psh := fun f h => by cases h
  pshLoc := fun f h => by cases h
  rdLoc := fun f h => by cases h
section
variable {P : Program} {E : Env} {C : CO} {nt : Nat} {w0 : World} {im0 : Nat → Prop} {ι0 : Nat → Option Nat} {h0 : H} {Q : Exit → Act → World → Prop} {ops : Array Oper}
theorem foldD_ok (hE : EnvOK P E) (hC : CallOK P C) (hdst : ∀ (i : Nat) o, ops[i]? = some o → ∀ x, o.dst = some x → x < nt) {b : Nat} : ∀ (l : List Nat) (a : Act) (w : World) (s s' : S) (h h' : H), CS nt w0 im0 ι0 h0 s h a w →
    foldD E C ops b l s h = some (s', h') → (∀ a' w', CS nt w0 im0 ι0 h0 s' h' a' w' → Q .normal a' w') → wpOps P ops Q l a w := by
  intro l
  induction l with
  | nil =>
    intro a w s s' h h' c e hq
    simp only [foldD, Option.some.injEq, Prod.mk.injEq] at e
    obtain ⟨rfl, rfl⟩ := e
    exact hq a w c
  | cons i l ih =>
    intro a w s s' h h' c e hq
    simp only [foldD] at e
    obtain ⟨o, ho, e⟩ := bind_some' e
    obtain ⟨r, hr, e⟩ := bind_some' e
    rw [wpOps_cons]
    exact stepD_ok hE hC c ho (hdst i o ho) (s' := r.1) (h' := r.2) hr fun a' w' c' => ih a' w' r.1 s' r.2 h' c' e hq
end
def Is (o : Oper) (d : Nat) (p : Op) : Prop := o.dst = some d ∧ o.op = p ∧ o.guard = none
def cloneCode (o : Nat → Oper) : Code :=
  (Code.region 0 #[o 0] false).seq (((Code.region 1 #[o 1, o 2] false).seq (.cond (.tmp 4) ((Code.region 2 #[o 3] false).seq .ret) .skip)).seq ((Code.region 3 #[o 4, o 5, o 6, o 7] false).seq .ret))
/-- A function is slices.Clone at a slice type. -/
structure CloneFn (P : Program) (f : FuncId) (tS : Nat) : Prop where
  at_ : ∃ fn o, P.funcs[f]? = some fn ∧ (fn.name == "runtime.NumGoroutine") = false ∧ fn.ntmps = 8 ∧ fn.results = #[.tmp 2] ∧ fn.body = some (cloneCode o) ∧
    Is (o 0) 2 (.assign (.const (.slice none 0 0))) ∧ Is (o 1) 3 (.move (.tmp 0)) ∧ Is (o 2) 4 (.binOp .eql tS (.tmp 3) (.const (.slice none 0 0)) tS) ∧ Is (o 3) 2 (.assign (.const (.slice none 0 0))) ∧
    Is (o 4) 5 (.buildSlice tS 0 #[]) ∧ Is (o 5) 6 (.move (.tmp 0)) ∧ Is (o 6) 7 (.call ⟨.builtin .append, #[.tmp 5, .tmp 6], #[tS, tS]⟩) ∧ Is (o 7) 2 (.assign (.tmp 7))
theorem set_same {h : H} {b : Nat} {o : Obj} (ho : h[b]? = some o) : h.set b o = h := by
  apply List.ext_getElem?
  intro q
  rw [List.getElem?_set]
  split
  · rename_i hq; subst hq
    split
    · exact ho.symm
    · rename_i hh; exact absurd (List.getElem?_eq_some_iff.1 ho).1 hh
  · rfl
theorem clone_ok {P : Program} {T : Nat → TI} (hT : TOk P T) {f tS tE : Nat} (hf : CloneFn P f tS) (hS : (T tS).d = .slice tE) (hE : (T tE).d.isO = false) {args : List A} {h : H} {rows : List (List A)}
    (e : cloneP (T tE).size (T tE).bytes args h = some rows) : Callable P f ∧ ∀ w im ι (vs : List Value), HRep w im ι h → vs.length = args.length →
    (∀ (i : Nat) v a, vs[i]? = some v → args[i]? = some a → RepA w im ι h v a) → ∀ (b : Nat) (o : Obj), h[b]? = some o → o.sz = (T tE).size → o.fz = false → o.rows = [] →
    Calls P f vs.toArray w fun e w' => ∃ v, e = .returned v ∧ Fits w im ι h v (.own b 0 rows.length) w' (h.set b ⟨(T tE).size, false, rows⟩) := by
  obtain ⟨fn, o, hfn, hname, hnt, hres, hbody, ⟨d0, p0, g0⟩, ⟨d1, p1, g1⟩, ⟨d2, p2, g2⟩, ⟨d3, p3, g3⟩, ⟨d4, p4, g4⟩, ⟨d5, p5, g5⟩, ⟨d6, p6, g6⟩, ⟨d7, p7, g7⟩⟩ := hf.at_
  refine ⟨⟨fn, hfn, hname, by rw [hbody]; rfl⟩, fun w im ι vs G hl hr b ob hob hsz hfz hr0 => ?_⟩
  match args, e with
  | [x], e =>
    simp only [cloneP] at e
    obtain ⟨ys, hys, e⟩ := bind_some' e
    split at e
    case isFalse => cases e
    rename_i hh
    simp only [Option.some.injEq] at e
    subst e
    obtain ⟨hall, hsz0, hby0, hbytes⟩ := hh
    have hobe : ob = ⟨(T tE).size, false, []⟩ := by cases ob; simp_all
    have hrowsB : rowsA x (h.set b ⟨(T tE).size, false, []⟩) = some ys := by rw [← hobe, set_same hob]; exact hys
    obtain ⟨v0, rfl⟩ : ∃ v0, vs = [v0] := by
      match vs, hl with
      | [v0], _ => exact ⟨v0, rfl⟩
    have hv0 := hr 0 v0 x rfl rfl
    have hT0 := E0_ok hT
    have hSe := (hT tS (by rw [hS]; simp)).d
    rw [hS] at hSe
    obtain ⟨ad, cap, hv, hcap, hpos⟩ := rowsA_ok (sz := (T tE).size) G hv0 hys hall
    refine calls_of_wp hfn hbody ?_
    let Q := bodyPost P fn fun e w' => ∃ v, e = .returned v ∧ Fits w im ι h v (.own b 0 ys.length) w' (h.set b ⟨(T tE).size, false, ys⟩)
    have c0 : CS 8 w im ι h (argS [x]) h { tmps := [v0].toArray ++ Array.replicate (fn.ntmps - [v0].toArray.size) undef, defers := [] } w :=
      ⟨im, ι, ⟨by simp [hnt], rfl, argS_rep hl hr _, G⟩, Stp.refl w im ι h⟩
    have hd1 : ∀ (n : Nat) (o : Oper), o.dst = some n → n < 8 → ∀ (i : Nat) p, #[o][i]? = some p → ∀ x, p.dst = some x → x < 8 := fun n o ho hn i p hp x hx => by
      have : p = o := by
        cases i with
        | zero => simpa using hp.symm
        | succ i => simp at hp
      subst this; rw [ho] at hx; cases hx; exact hn
    -- the end, from slot 2
    have fin2 : ∀ (s : S) (h' : H) a' w', CS 8 w im ι h s h' a' w' → (∀ im' ι', HRep w' im' ι' h' → Stp w im ι h w' im' ι' h' → ∀ v, RepA w' im' ι' h' v (s 2) → Fits w im ι h v (.own b 0 ys.length) w' (h.set b ⟨(T tE).size, false, ys⟩)) → Q .ret a' w' := fun s h' a' w' ⟨im', ι', c, st⟩ hk => by
      obtain ⟨v, h4, h5, h6⟩ := results_ok (E := E0 T) (fn := fn) (r := (s 2, h')) hT c (by rw [hres]; rfl)
      exact ⟨c.defers, v, h4, v, rfl, hk im' ι' c.heap st v h5⟩
    refine wp_seq (wp_region ?_)
    refine foldD_ok hT0 C0_ok (hd1 2 _ d0 (by omega)) (b := b) _ _ w (argS [x]) (put (argS [x]) (some 2) .nils) h h c0 (by
      simp [foldD, stepD, opDV, opD, opK, outV, d0, p0, g0, evA, constA]) fun a1 w1 c1 => ?_
    refine wp_seq (wp_seq (wp_region ?_))
    have hr1 : List.range (#[o 1, o 2] : Array Oper).size = [0, 1] := rfl
    rw [hr1, wpOps_cons]
    have hd2 : ∀ (i : Nat) p, (#[o 1, o 2] : Array Oper)[i]? = some p → ∀ x, p.dst = some x → x < 8 := fun i p hp x hx => by
      match i, hp with
      | 0, hp => simp at hp; subst hp; rw [d1] at hx; have := Option.some.inj hx; rw [← this]; decide
      | 1, hp => simp at hp; subst hp; rw [d2] at hx; have := Option.some.inj hx; rw [← this]; decide
      | i + 2, hp => simp at hp
    refine stepD_ok (ops := #[o 1, o 2]) hT0 C0_ok c1 (b := b) (o := o 1) rfl (hd2 0 _ rfl) (s' := put (put (argS [x]) (some 2) .nils) (some 3) x) (h' := h) (by
      simp [stepD, opDV, opD, opK, outV, d1, p1, g1, evA]
      rfl) fun a2 w2 c2 => ?_
    rw [wpOps_cons]
    obtain ⟨im2, ι2, k2, st2⟩ := c2
    have hx2 : RepA w2 im2 ι2 h (a2.tmps.getD 3 undef) x := k2.rep 3
    obtain ⟨ad2, cap2, hv2, hcap2, hpos2⟩ := rowsA_ok (sz := (T tE).size) k2.heap hx2 hys hall
    unfold wpOp
    simp only [List.getElem?_toArray, List.getElem?_cons_succ, List.getElem?_cons_zero]
    rw [if_pos (by simp [Region.wanted, g2])]
    left
    refine wp_val (v := .bool ad2.isNone) (w' := w2) (by
      have he : execOp a2.eval (o 2) = (do pure (.value (← (do eqGuard .eql tS (.tmp 3) (.const (.slice none 0 0)) (a2.eval (.tmp 3)) (a2.eval (.const (.slice none 0 0))); binOp .eql tS (a2.eval (.tmp 3)) (a2.eval (.const (.slice none 0 0))))))) := by
        unfold execOp
        rw [p2]
      have hev : a2.eval (.tmp 3) = .slice ad2 ys.length cap2 := hv2
      have hg : (eqGuard .eql tS (.tmp 3) (.const (.slice none 0 0)) (.slice ad2 ys.length cap2) (.slice none 0 0)).run P w2 = .ok () w2 := by
        unfold eqGuard
        split <;> simp
      rw [he, hev]
      simp only [Act.eval, Sem.run_bind, hg, Result.andThen_ok, Lib.run_eql_slice_nil w2 tS tE ad2 ys.length cap2 0 0 hSe, Sem.run_pure]) ?_
    have c3 : CS 8 w im ι h (put (put (put (argS [x]) (some 2) .nils) (some 3) x) (some 4) (.bool ad2.isNone)) h (a2.put (o 2).dst (.bool ad2.isNone)) w2 := by
      rw [d2]
      exact ⟨im2, ι2, k2.put (fun y hy => by cases hy; omega) k2.heap (.d (.bool _)) (Stp.refl _ _ _ _), st2⟩
    refine wp_cond (t := ad2.isNone) ?_ ?_
    · obtain ⟨im3, ι3, k3, _⟩ := c3
      exact (k3.rep 4).bool
    · cases hn : ad2.isNone with
      | true =>
        have hy0 : ys = [] := by
          rcases hpos2 with h1 | ⟨bb, off, h1, _⟩
          · exact h1
          · rw [h1] at hn; cases hn
        simp only [if_true]
        rw [hn] at c3
        refine wp_seq (wp_region ?_)
        refine foldD_ok hT0 C0_ok (hd1 2 _ d3 (by omega)) (b := b) _ _ w2 _ (put (put (put (put (argS [x]) (some 2) .nils) (some 3) x) (some 4) (.bool true)) (some 2) .nils) h h c3 (by
          simp [foldD, stepD, opDV, opD, opK, outV, d3, p3, g3, evA, constA]) fun a4 w4 c4 => ?_
        refine wp_ret ?_
        refine fin2 _ _ a4 w4 c4 fun im' ι' G' st' v hv => ?_
        have hset : h.set b ⟨(T tE).size, false, ys⟩ = h := by rw [hy0, ← hobe]; exact set_same hob
        rw [hset, hy0]
        refine ⟨im', ι', G', ?_, st'⟩
        have hv' : RepA w4 im' ι' h v .nils := hv
        cases hv' with
        | d hd => cases hd
        | nils ad => exact .own hob (by simp) (Nat.le_refl _) fun _ => .inl rfl
      | false =>
        simp only [Bool.false_eq_true, if_false]
        rw [hn] at c3
        refine wp_skip ?_
        refine wp_seq (wp_region ?_)
        have hd4 : ∀ (i : Nat) p, (#[o 4, o 5, o 6, o 7] : Array Oper)[i]? = some p → ∀ x, p.dst = some x → x < 8 := fun i p hp x hx => by
          match i, hp with
          | 0, hp => simp at hp; subst hp; rw [d4] at hx; have := Option.some.inj hx; rw [← this]; decide
          | 1, hp => simp at hp; subst hp; rw [d5] at hx; have := Option.some.inj hx; rw [← this]; decide
          | 2, hp => simp at hp; subst hp; rw [d6] at hx; have := Option.some.inj hx; rw [← this]; decide
          | 3, hp => simp at hp; subst hp; rw [d7] at hx; have := Option.some.inj hx; rw [← this]; decide
          | i + 4, hp => simp at hp
        have hrank : ∀ i, (b + rankP (E0 T) #[o 4, o 5, o 6, o 7] i) = (b + rankP (E0 T) #[o 4, o 5, o 6, o 7] i) := fun _ => rfl
        have hrange : List.range (#[o 4, o 5, o 6, o 7] : Array Oper).size = [0, 1, 2, 3] := rfl
        rw [hrange]
        have hTS : ((E0 T).T tS).d = .slice tE := hS
        have hTE : ((E0 T).T tE).d.isO = false := hE
        have hbeq : (Nat.beq ob.sz (T tE).size && (!ob.fz && ob.rows.isEmpty)) = true := by simp [hsz, hfz, hr0]
        have hb' : b < h.length := (List.getElem?_eq_some_iff.1 hob).1
        have happ : appA (T tE).size (T tE).bytes (.own b 0 0) x (h.set b ⟨(T tE).size, false, []⟩) = some (.own b 0 ys.length, h.set b ⟨(T tE).size, false, ys⟩) := by
          simp only [appA, hrowsB, Option.bind_some]
          rw [if_pos ⟨hall, hsz0, hby0⟩]
          simp [hb', List.set_set]
          exact hbytes
        refine foldD_ok hT0 C0_ok hd4 (b := b) [0, 1, 2, 3] _ w2 _ (put (put (put (put (put (put (put (argS [x]) (some 2) .nils) (some 3) x) (some 4) (.bool false)) (some 5) (.own b 0 0)) (some 6) x) (some 7) (.own b 0 ys.length)) (some 2) (.own b 0 ys.length)) h (h.set b ⟨(T tE).size, false, ys⟩) c3 (by
          have e4 : stepD (E0 T) C0 #[o 4, o 5, o 6, o 7] (b + rankP (E0 T) #[o 4, o 5, o 6, o 7] 0) (o 4) (put (put (put (argS [x]) (some 2) .nils) (some 3) x) (some 4) (.bool false)) h =
              some (put (put (put (put (argS [x]) (some 2) .nils) (some 3) x) (some 4) (.bool false)) (some 5) (.own b 0 0), h.set b ⟨(T tE).size, false, []⟩) := by
            simp [stepD, opDV, opD, outV, d4, p4, g4, hTS, hTE, rankP, bsD, setD, hob]
            simp [E0, hsz0, hbeq, setD, hob]
          have e5 : ∀ bb s hh, stepD (E0 T) C0 #[o 4, o 5, o 6, o 7] bb (o 5) s hh = some (put s (some 6) (s 0), hh) := fun bb s hh => by
            simp [stepD, opDV, opD, opK, outV, d5, p5, g5, evA]
          have e6 : ∀ bb s, s 5 = .own b 0 0 → s 6 = x → stepD (E0 T) C0 #[o 4, o 5, o 6, o 7] bb (o 6) s (h.set b ⟨(T tE).size, false, []⟩) = some (put s (some 7) (.own b 0 ys.length), h.set b ⟨(T tE).size, false, ys⟩) := fun bb s h5 h6 => by
            simp [stepD, opDV, opD, opK, outV, d6, p6, g6, evA, h5, h6, isNils, hTS, hTE]
            simp [E0, happ, outV, d6]
          have e7 : ∀ bb s hh, stepD (E0 T) C0 #[o 4, o 5, o 6, o 7] bb (o 7) s hh = some (put s (some 2) (s 7), hh) := fun bb s hh => by
            simp [stepD, opDV, opD, opK, outV, d7, p7, g7, evA]
          simp only [foldD, List.getElem?_toArray, List.getElem?_cons_succ, List.getElem?_cons_zero, Option.bind_some, e4]
          rw [e5]
          simp only [Option.bind_some]
          rw [e6 _ _ rfl rfl]
          simp only [Option.bind_some]
          rw [e7]
          rfl) fun a4 w4 c4 => ?_
        refine wp_ret ?_
        exact fin2 _ _ a4 w4 c4 fun im' ι' G' st' v hv => ⟨im', ι', G', hv, st'⟩
end Go.Ab
namespace Go.Ab
open Go
/-- All operations of a function, in the text's order. -/
def opsIn : Code → List Oper
  | .region _ ops _ => ops.toList
  | .seq a b => opsIn a ++ opsIn b
  | .cond _ a b => opsIn a ++ opsIn b
  | .block _ b => opsIn b
  | .loop b => opsIn b
  | _ => []
def oper0 : Oper := { dst := none, op := .move (.const (.bool false)), type := 0, pos := "", after := #[], guard := none }
def cloneOps (fn : Func) (i : Nat) : Oper := match fn.body with | some c => (opsIn c).getD i oper0 | none => oper0
end Go.Ab
namespace Go.Ab
open Go
variable [Val]
theorem cloneP_loc {sz bytes : Nat} {args : List A} {h h2 : H} {rows : List (List A)} (e : cloneP sz bytes args h = some rows) (hh : ∀ j, (∃ a ∈ args, idA a = some j) → h2[j]? = h[j]?) : cloneP sz bytes args h2 = some rows := by
  match args, e with
  | [x], e =>
    simp only [cloneP] at e ⊢
    rw [rowsA_loc (h := h) fun j hj => hh j ⟨x, by simp, hj⟩]
    exact e
theorem fadA_id {o : Nat} {p x : A} (hx : fadA o p = some x) {j : Nat} (hj : idA x = some j) : idA p = some j := by
  cases p <;> simp [fadA] at hx <;> subst hx <;> first | exact hj | cases hj
theorem topicR_loc {a1 b1 a2 b2 sz : Nat} {args : List A} {h h2 : H} {v : A} (e : topicR a1 b1 a2 b2 sz args h = some v) (hh : ∀ j, (∃ a ∈ v :: args, idA a = some j) → h2[j]? = h[j]?) : topicR a1 b1 a2 b2 sz args h2 = some v := by
  match args, e with
  | [p], e =>
    simp only [topicR] at e ⊢
    obtain ⟨x, g1, e⟩ := bind_some' e
    obtain ⟨a, h1, e⟩ := bind_some' e
    obtain ⟨l, h3, e⟩ := bind_some' e
    obtain ⟨y, g4, e⟩ := bind_some' e
    obtain ⟨b, h4, e⟩ := bind_some' e
    obtain ⟨i, h5, e⟩ := bind_some' e
    have ha : ∀ j, idA a = some j → h2[j]? = h[j]? := fun j hj => hh j ⟨p, by simp, fadA_id g1 (fadA_id h1 hj)⟩
    have hb : ∀ j, idA b = some j → h2[j]? = h[j]? := fun j hj => hh j ⟨p, by simp, fadA_id g4 (fadA_id h4 hj)⟩
    have hl : ∀ j, idA l = some j → h2[j]? = h[j]? := fun j hj => by
      refine hh j ⟨v, by simp, ?_⟩
      cases l with
      | own id off len =>
        cases i with
        | int k n =>
          simp only [iadA] at e
          cases ho : h[id]? with
          | none => rw [ho] at e; cases e
          | some o =>
            rw [ho] at e
            simp only at e
            split at e
            · simp only [Option.some.injEq] at e; subst e; exact hj
            · cases e
        | _ => simp [iadA] at e
      | ptr id ver row off => cases i <;> simp [iadA] at e
      | _ => cases hj
    rw [g1, Option.bind_some, h1, Option.bind_some, ldA_loc (h := h) ha, h3, Option.bind_some, g4, Option.bind_some, h4, Option.bind_some, ldA_loc (h := h) hb, h5, Option.bind_some, iadA_loc (h := h) hl]
    exact e
end Go.Ab

namespace Go.Ab
open Go
variable [Val]
/-! slices.Sort of ints in place, out of the shelf's contract. -/
section
variable {P : Program} {w : World} {im : Nat → Prop} {ι : Nat → Option Nat} {h : H}
theorem HRep.aheadN (G : HRep w im ι h) (n : Nat) : HRep (Sort.ahead w n) im ι h ∧ Stp w im ι h (Sort.ahead w n) im ι h := by
  have s : Stp w im ι h (Sort.ahead w n) im ι h := { Stp.refl w im ι h with os := rfl, tape := rfl, output := rfl }
  exact ⟨G.step s (fun id o' ho => .inl ⟨ho, rfl, fun _ _ => rfl⟩) G.inj G.imLt G.fzIm, s⟩
theorem HRep.grown (G : HRep w im ι h) (os : Array Go.Obj) : HRep (Sort.grow w os) im ι h ∧ Stp w im ι h (Sort.grow w os) im ι h := by
  have old : ∀ b, b < w.heap.size → (Sort.grow w os).heap[b]? = w.heap[b]? := fun b hb => by
    simp only [Sort.grow]; rw [Array.getElem?_append_left hb]
  have s : Stp w im ι h (Sort.grow w os) im ι h :=
    { Stp.refl w im ι h with
      os := rfl, tape := rfl, output := rfl
      size := by simp [Sort.grow]
      blk := fun b hb _ => old b hb
      cells := fun b c e f hc => ⟨c, (old b (lt_of_heap hc)).trans hc, rfl⟩
      imN := fun _ h => .inl h
      wr := fun b h => .inl h }
  exact ⟨G.step s (fun id o' ho' => .inl ⟨ho', rfl, fun b hb => old b (G.old (List.getElem?_eq_some_iff.1 ho').1 hb)⟩) G.inj (fun b hb => by have := G.imLt b hb; simp [Sort.grow]; omega) G.fzIm, s⟩
theorem putRow_eq {enc : Int → Value} {b off : Nat} {d : Array Int} {c : Array Value} {e : TypeId} {f : Nat × Nat} (hc : w.heap[b]? = some (.cells c e f)) : Sort.putRow enc w b off d = w.setRow b (Sort.putCells enc off d c) := by
  unfold Sort.putRow Sort.mapBlock World.setRow
  congr 1
  apply Array.ext_getElem?
  intro q
  rw [Array.getElem?_modify, Array.getElem?_modify]
  split
  · rename_i hq; subst hq; rw [hc]; rfl
  · rfl
theorem intRow_some {r : List A} {n : Int} (e : intRow r = some n) : r = rowI n := by
  unfold intRow at e
  split at e
  · simp only [Option.some.injEq] at e; subst e; rfl
  · cases e
end
/-! sorting -/
theorem insI_perm (x : Int) : ∀ l : List Int, (insI x l).Perm (x :: l)
  | [] => .refl _
  | y :: l => by
    simp only [insI]
    cases decide (x ≤ y) with
    | true => exact .refl _
    | false => exact ((insI_perm x l).cons y).trans (.swap x y l)
theorem sortI_perm : ∀ l : List Int, (sortI l).Perm l
  | [] => .refl _
  | x :: l => (insI_perm x _).trans ((sortI_perm l).cons x)
theorem insI_sorted (x : Int) : ∀ l : List Int, l.Pairwise (· ≤ ·) → (insI x l).Pairwise (· ≤ ·)
  | [], _ => by simp [insI]
  | y :: l, h => by
    simp only [insI]
    by_cases hxy : x ≤ y
    · simp only [hxy, decide_true, cond_true]
      exact List.pairwise_cons.2 ⟨fun z hz => by
        rcases List.mem_cons.1 hz with rfl | hz
        · exact hxy
        · exact Int.le_trans hxy ((List.pairwise_cons.1 h).1 z hz), h⟩
    · simp only [hxy, decide_false, cond_false]
      refine List.pairwise_cons.2 ⟨fun z hz => ?_, insI_sorted x l (List.pairwise_cons.1 h).2⟩
      rcases List.mem_cons.1 ((insI_perm x l).mem_iff.1 hz) with rfl | hz
      · omega
      · exact (List.pairwise_cons.1 h).1 z hz
theorem sortI_sorted : ∀ l : List Int, (sortI l).Pairwise (· ≤ ·)
  | [] => .nil
  | x :: l => insI_sorted x _ (sortI_sorted l)
theorem mergeSort_sortI (l : List Int) : (l.mergeSort fun x y => decide (x ≤ y)) = sortI l := by
  refine List.Perm.eq_of_pairwise (le := (· ≤ ·)) (fun a b _ _ h1 h2 => Int.le_antisymm h1 h2) ?_ (sortI_sorted l) ((List.mergeSort_perm l _).trans (sortI_perm l).symm)
  have := List.pairwise_mergeSort (le := fun x y : Int => decide (x ≤ y)) (fun a b c h1 h2 => by simp at h1 h2 ⊢; omega) (fun a b => by simp; omega) l
  exact this.imp fun h => by simpa using h
/-- What the shelf says of slices.Sort. -/
def SortC (P : Program) (f : FuncId) : Prop := Callable P f ∧
  (∀ (blk off cap : Nat) (zs : List Int) (w : World), Sort.Holds (Value.int .i64) w blk off zs.toArray → blk < w.heap.size → zs.length < 4611686018427387904 →
    Calls P f #[.slice (some ⟨blk, off, none⟩) zs.length cap] w fun e w' => e = .returned (.tuple #[]) ∧ ∃ n os, w' = Sort.grow (Sort.putRow (Value.int .i64) (Sort.ahead w n) blk off (zs.mergeSort fun x y => decide (x ≤ y)).toArray) os) ∧
  ∀ (p : Option Addr) (cap : Nat) (w : World), Calls P f #[.slice p 0 cap] w fun e w' => e = .returned (.tuple #[]) ∧ w' = w
theorem sort_ok {P : Program} {f : FuncId} (hf : SortC P f) : CallOK P (fun f' args h => if f' = f then sortA args h else none) := by
  intro f' args h r e
  simp only at e
  split at e
  case isFalse => cases e
  rename_i hff
  subst hff
  obtain ⟨hcall, hsome, hnone⟩ := hf
  refine ⟨hcall, fun w im ι vs G hl hr => ?_⟩
  unfold sortA at e
  split at e
  case h_2 => cases e
  rename_i id off len
  split at e
  case h_2 => cases e
  rename_i ob hob
  obtain ⟨hc, e2⟩ := bif_some e
  clear e
  simp only [Bool.and_eq_true, Bool.not_eq_true'] at hc
  obtain ⟨⟨⟨⟨hsz, hfz⟩, hoff⟩, hlen⟩, hbig⟩ := hc
  replace hbig : len < 1048576 := by simpa using hbig
  replace hsz := Nat.eq_of_beq_eq_true hsz
  replace hoff := Nat.eq_of_beq_eq_true hoff
  replace hlen := Nat.eq_of_beq_eq_true hlen
  subst hoff
  cases hm : ob.rows.mapM intRow with
  | none => rw [hm] at e2; cases e2
  | some zs =>
    rw [hm] at e2
    simp only [Option.map_some, Option.some.injEq] at e2
    subst e2
    obtain ⟨v0, rfl⟩ : ∃ v0, vs = [v0] := by
      match vs, hl with
      | [v0], _ => exact ⟨v0, rfl⟩
    have hzl : zs.length = ob.rows.length := mapM_length hm
    have hv0 := hr 0 v0 _ rfl rfl
    have hrow : ∀ (i : Nat) n, zs[i]? = some n → ob.rows[i]? = some (rowI n) := fun i n hi => by
      obtain ⟨r, h1, h2⟩ := mapM_get' hm i n hi
      rw [h1, intRow_some h2]
    cases hv0 with
    | d hd => cases hd
    | @own _ _ _ o ad cap ho hl0 hcp hcur =>
      rw [hob] at ho; cases ho
      have hobl : id < h.length := (List.getElem?_eq_some_iff.1 hob).1
      rcases hcur (by omega) with h0 | ⟨b, hb, rfl, hcapb⟩
      · have hl00 : len = 0 := by omega
        have hz0 : zs = [] := List.eq_nil_of_length_eq_zero (by omega)
        subst hl00
        refine (hnone ad cap w).mono ?_
        rintro e w' ⟨rfl, rfl⟩
        have hset : h.set id ⟨1, false, (sortI zs).map rowI⟩ = h := by
          have : (⟨1, false, (sortI zs).map rowI⟩ : Obj) = ob := by
            have h3 : ob.rows = [] := List.eq_nil_of_length_eq_zero (by omega)
            cases ob; simp_all [sortI]
          rw [this]
          apply List.ext_getElem?
          intro q
          rw [List.getElem?_set]
          split
          · rename_i hq; subst hq; first | exact hob.symm | (rw [if_pos hobl, hob])
          · rfl
        refine ⟨_, rfl, ?_⟩
        simp only [hset]
        exact ⟨im, ι, G, .tup rfl fun i v a hv => by simp at hv, Stp.refl _ _ _ _⟩
      · rcases Nat.eq_zero_or_pos len with hl00 | hpos
        · have hz0 : zs = [] := List.eq_nil_of_length_eq_zero (by omega)
          subst hl00
          refine (hnone _ cap w).mono ?_
          rintro e w' ⟨rfl, rfl⟩
          have hset : h.set id ⟨1, false, (sortI zs).map rowI⟩ = h := by
            have : (⟨1, false, (sortI zs).map rowI⟩ : Obj) = ob := by
              have h3 : ob.rows = [] := List.eq_nil_of_length_eq_zero (by omega)
              cases ob; simp_all [sortI]
            rw [this]
            apply List.ext_getElem?
            intro q
            rw [List.getElem?_set]
            split
            · rename_i hq; subst hq; first | exact hob.symm | (rw [if_pos hobl, hob])
            · rfl
          refine ⟨_, rfl, ?_⟩
          simp only [hset]
          exact ⟨im, ι, G, .tup rfl fun i v a hv => by simp at hv, Stp.refl _ _ _ _⟩
        · obtain ⟨r0, hr0⟩ : ∃ r, r ∈ ob.rows := ⟨ob.rows[0]'(by omega), List.getElem_mem _⟩
          obtain ⟨b', c, et, hb', hcells, hcl, hrsz, hcell⟩ := G.at_ hob hr0 (.inl hfz)
          rw [hb] at hb'; cases hb'
          rw [hsz] at hcl hcell
          have hcz : ∀ (i : Nat) n, zs[i]? = some n → c[i]? = some (.int .i64 n) := fun i n hi => by
            obtain ⟨v, h1, h2, h3⟩ := hcell i 0 _ (.int .i64 n) (hrow i n hi) rfl
            simp only [Nat.mul_one, Nat.add_zero] at h1
            rw [h1, h3.int]
          have hbsz : b < w.heap.size := lt_of_heap hcells
          have hholds : Sort.Holds (Value.int .i64) w b (0 * ob.sz) zs.toArray := fun j hj => by
            have hj' : j < zs.length := by simpa using hj
            have hcj := hcz j zs[j] (List.getElem?_eq_getElem hj')
            have hg : zs.toArray[j]! = zs[j] := by simp [hj']
            refine ⟨?_, ?_⟩
            · simp only [World.cell?, hcells, Option.isSome_none, Bool.false_eq_true, if_false, Nat.zero_mul, Nat.zero_add, hcj, hg]
            · simp [World.frozen?, hcells]
          have hlz : len = zs.length := by omega
          rw [hlz]
          have hsmall : zs.length < 4611686018427387904 := by omega
          refine (hsome b (0 * ob.sz) cap zs w hholds hbsz hsmall).mono ?_
          rintro e w' ⟨rfl, n, os, rfl⟩
          rw [mergeSort_sortI]
          have hp := sortI_perm zs
          have hsl : (sortI zs).length = zs.length := hp.length_eq
          obtain ⟨G1, s1⟩ := G.aheadN n
          have hcells1 : (Sort.ahead w n).heap[b]? = some (.cells c et (0, 0)) := hcells
          rw [putRow_eq hcells1]
          have hcs : (Sort.putCells (Value.int .i64) (0 * ob.sz) (sortI zs).toArray c).size = c.size := by simp [Sort.putCells]
          obtain ⟨G2, s2⟩ := G1.write hob hfz hb hcells1 hcs ((sortI zs).map rowI) (by rw [List.length_map, hsl]; omega) (by rw [hcs, hsz, List.length_map, hsl]; omega) (fun r hr => by
            obtain ⟨x, _, rfl⟩ := List.mem_map.1 hr; rw [hsz]; rfl) (fun i j r a h1 h2 => by
            rw [List.getElem?_map] at h1
            cases hx : (sortI zs)[i]? with
            | none => rw [hx] at h1; cases h1
            | some x =>
              rw [hx] at h1
              simp only [Option.map_some, Option.some.injEq] at h1
              subst h1
              have hj0 : j = 0 := by
                have := (List.getElem?_eq_some_iff.1 h2).1; simp [rowI] at this; exact this
              subst hj0
              simp only [rowI, List.getElem?_cons_zero, Option.some.injEq] at h2
              subst h2
              have hil : i < (sortI zs).length := (List.getElem?_eq_some_iff.1 hx).1
              have hic : i < c.size := by omega
              refine ⟨.int .i64 x, ?_, rfl, .d (.int _ _)⟩
              rw [hsz]
              simp only [Sort.putCells, Nat.mul_one, Nat.add_zero, Array.getElem?_mapIdx, Array.getElem?_eq_getElem hic, Option.map_some, Nat.zero_mul, Nat.zero_le, true_and, Nat.zero_add, List.size_toArray, hil, if_true, Nat.sub_zero]
              have : (sortI zs).toArray[i]! = x := by
                have h5 := (List.getElem?_eq_some_iff.1 hx).2
                simp [hil, h5]
              rw [this])
          obtain ⟨G3, s3⟩ := G2.grown os
          have ho' : ({ ob with rows := (sortI zs).map rowI } : Obj) = ⟨1, false, (sortI zs).map rowI⟩ := by cases ob; simp_all
          rw [ho'] at G3 s3 s2
          exact ⟨_, rfl, im, ι, G3, .tup rfl fun i v a hv => by simp at hv, (s1.trans s2).trans s3⟩
end Go.Ab

namespace Go.Ab
open Go
variable [Val]
/-! slices.Compact of ints, out of the shelf's contract: the slice's object is let go. -/
section
variable {P : Program} {w : World} {im : Nat → Prop} {ι : Nat → Option Nat} {h : H}
/-- An object's block handed on to a new object, of its first rows. -/
theorem HRep.detach (G : HRep w im ι h) {id b n : Nat} {o : Obj} (ho : h[id]? = some o) (hf : o.fz = false) (hb : ι id = some b) (hn : n ≤ o.rows.length) (dead : List (List A)) (hd : o.rows.length < dead.length) :
    HRep w im (upd (upd ι id none) h.length (some b)) (h.set id ⟨o.sz, true, dead⟩ ++ [⟨o.sz, false, o.rows.take n⟩]) ∧
      Stp w im ι h w im (upd (upd ι id none) h.length (some b)) (h.set id ⟨o.sz, true, dead⟩ ++ [⟨o.sz, false, o.rows.take n⟩]) := by
  have hid : id < h.length := (List.getElem?_eq_some_iff.1 ho).1
  have get : ∀ (q : Nat) o', (h.set id ⟨o.sz, true, dead⟩ ++ [(⟨o.sz, false, o.rows.take n⟩ : Obj)])[q]? = some o' →
      (q = id ∧ o' = ⟨o.sz, true, dead⟩) ∨ (q ≠ id ∧ q < h.length ∧ h[q]? = some o') ∨ (q = h.length ∧ o' = ⟨o.sz, false, o.rows.take n⟩) := fun q o' hq => by
    rcases Nat.lt_or_ge q h.length with hlt | hge
    · rw [List.getElem?_append_left (by simpa using hlt), List.getElem?_set] at hq
      split at hq
      · rename_i he; subst he
        first | exact .inl ⟨rfl, (Option.some.inj hq).symm⟩ | (rw [if_pos hid] at hq; exact .inl ⟨rfl, (Option.some.inj hq).symm⟩)
      · rename_i he
        exact .inr (.inl ⟨fun hh => he hh.symm, hlt, hq⟩)
    · rw [List.getElem?_append_right (by simpa using hge)] at hq
      right; right
      have hl : q - (h.set id ⟨o.sz, true, dead⟩).length = 0 := by
        have := (List.getElem?_eq_some_iff.1 hq).1; simp at this ⊢; omega
      rw [hl] at hq
      simp at hq hl
      exact ⟨by omega, hq.symm⟩
  have u1 : upd (upd ι id none) h.length (some b) id = none := by rw [upd_ne _ _ (by omega), upd_self]
  have u2 : upd (upd ι id none) h.length (some b) h.length = some b := upd_self _ _ _
  have u3 : ∀ q, q ≠ id → q < h.length → upd (upd ι id none) h.length (some b) q = ι q := fun q h1 h2 => by rw [upd_ne _ _ (by omega), upd_ne _ _ h1]
  have hW : Wr ι h b := ⟨id, o, ho, hf, hb⟩
  have s : Stp w im ι h w im (upd (upd ι id none) h.length (some b)) (h.set id ⟨o.sz, true, dead⟩ ++ [⟨o.sz, false, o.rows.take n⟩]) :=
    { Stp.refl w im ι h with
      imN := fun _ h => .inl h
      wr := fun b' ⟨q, o', hq, hfq, hbq⟩ => by
        rcases get q o' hq with ⟨rfl, rfl⟩ | ⟨h1, h2, h3⟩ | ⟨rfl, rfl⟩
        · cases hfq
        · exact .inl ⟨q, o', h3, hfq, by rw [← u3 q h1 h2]; exact hbq⟩
        · rw [u2] at hbq; cases hbq; exact .inl hW
      len := by simp
      objs := fun q o1 o2 h1 h2 => by
        rcases get q o2 h2 with ⟨rfl, rfl⟩ | ⟨g1, g2, g3⟩ | ⟨rfl, rfl⟩
        · rw [ho] at h1; cases h1
          exact ⟨rfl, by simp; omega, fun he => by simp at he; omega⟩
        · rw [h1] at g3; cases g3
          exact ⟨rfl, Nat.le_refl _, fun _ => u3 q g1 g2⟩
        · have := (List.getElem?_eq_some_iff.1 h1).1; omega }
  refine ⟨G.step s (fun q o' hq => ?_) (fun i j b' hi hj h1 h2 => ?_) G.imLt (fun q o' b' hq hbq => ?_), s⟩
  · rcases get q o' hq with ⟨rfl, rfl⟩ | ⟨g1, g2, g3⟩ | ⟨rfl, rfl⟩
    · exact .inr (.inl ⟨u1, .inr rfl⟩)
    · exact .inl ⟨g3, u3 q g1 g2, fun _ _ => rfl⟩
    · right; right
      rcases G.obj id o ho with ⟨h0, _⟩ | ⟨b', c, e, hb', hc, hl, hsz, hcell⟩
      · rw [h0] at hb; cases hb
      · rw [hb'] at hb; cases hb
        refine ⟨b, c, e, u2, hc, ?_, fun r hr => hsz r (List.mem_of_mem_take hr), fun i j r a k1 k2 => ?_⟩
        · have : (o.rows.take n).length * o.sz ≤ o.rows.length * o.sz := Nat.mul_le_mul_right _ (by simp; omega)
          exact Nat.le_trans this hl
        · have k1' : o.rows[i]? = some r := by
            rw [List.getElem?_take] at k1
            split at k1
            · exact k1
            · cases k1
          obtain ⟨v, g1, g2, g3⟩ := hcell i j r a k1' k2
          exact ⟨v, g1, g2, g3.mono G s⟩
  · simp at hi hj
    by_cases i1 : i = id
    · subst i1; rw [u1] at h1; cases h1
    · by_cases j1 : j = id
      · subst j1; rw [u1] at h2; cases h2
      · by_cases i2 : i = h.length
        · by_cases j2 : j = h.length
          · omega
          · subst i2
            rw [u2] at h1; cases h1
            rw [u3 j j1 (by omega)] at h2
            exact absurd (G.inj j id b (by omega) hid h2 hb) j1
        · rw [u3 i i1 (by omega)] at h1
          by_cases j2 : j = h.length
          · subst j2
            rw [u2] at h2; cases h2
            exact absurd (G.inj i id b (by omega) hid h1 hb) i1
          · rw [u3 j j1 (by omega)] at h2
            exact G.inj i j b' (by omega) (by omega) h1 h2
  · rcases get q o' hq with ⟨rfl, rfl⟩ | ⟨g1, g2, g3⟩ | ⟨rfl, rfl⟩
    · rw [u1] at hbq; cases hbq
    · rw [u3 q g1 g2] at hbq; exact G.fzIm q o' b' g3 hbq
    · rw [u2] at hbq; cases hbq
      exact ⟨fun hh => Bool.noConfusion hh, fun _ => (G.fzIm id o b ho hb).2 hf⟩
end
/-- What the shelf says of slices.Compact. -/
def CompactC (P : Program) (f : FuncId) : Prop := Callable P f ∧
  (∀ (blk off cap : Nat) (zs : List Int) (w : World), Sort.Holds (Value.int .i64) w blk off zs.toArray → zs.length ≤ 9223372036854775807 → zs.length ≤ cap →
    Calls P f #[.slice (some ⟨blk, off, none⟩) zs.length cap] w fun e w' => e = .returned (.slice (some ⟨blk, off, none⟩) (Lib.compact zs).length cap) ∧
      ∃ q, w' = Sort.putRow (Value.int .i64) (Sort.ahead w q) blk off (Lib.compact zs ++ List.replicate (zs.length - (Lib.compact zs).length) 0).toArray) ∧
  ∀ (a : Option Addr) (cap : Nat) (w : World), Calls P f #[.slice a 0 cap] w fun e w' => e = .returned (.slice a 0 cap) ∧ w' = w
theorem compact_le (zs : List Int) : (Lib.compact zs).length ≤ zs.length := by
  unfold Lib.compact Lib.compactUpTo
  rw [List.length_map]
  exact Nat.le_trans (List.length_filter_le _ _) (by simp)
theorem compact_ok {P : Program} {f : FuncId} (hf : CompactC P f) : CallOK P (fun f' args h => if f' = f then compactA args h else none) := by
  intro f' args h r e
  simp only at e
  split at e
  case isFalse => cases e
  rename_i hff
  subst hff
  obtain ⟨hcall, hsome, hnone⟩ := hf
  refine ⟨hcall, fun w im ι vs G hl hr => ?_⟩
  unfold compactA at e
  split at e
  case h_2 => cases e
  rename_i id off len
  split at e
  case h_2 => cases e
  rename_i ob hob
  obtain ⟨hc, e2⟩ := bif_some e
  clear e
  simp only [Bool.and_eq_true, Bool.not_eq_true'] at hc
  obtain ⟨⟨⟨⟨hsz, hfz⟩, hoff⟩, hlen⟩, hbig⟩ := hc
  replace hbig : len < 1048576 := by simpa using hbig
  replace hsz := Nat.eq_of_beq_eq_true hsz
  replace hoff := Nat.eq_of_beq_eq_true hoff
  replace hlen := Nat.eq_of_beq_eq_true hlen
  subst hoff
  obtain ⟨v0, rfl⟩ : ∃ v0, vs = [v0] := by
    match vs, hl with
    | [v0], _ => exact ⟨v0, rfl⟩
  have hv0 := hr 0 v0 _ rfl rfl
  have hobl : id < h.length := (List.getElem?_eq_some_iff.1 hob).1
  cases hz : Nat.beq len 0 with
  | true =>
    have hl00 := Nat.eq_of_beq_eq_true hz
    subst hl00
    rw [hz] at e2
    simp only [cond_true, Option.some.injEq] at e2
    subst e2
    have hv1 := hv0
    cases hv1 with
    | d hd => cases hd
    | @own _ _ _ o ad cap ho hl0 hcp hcur =>
      refine (hnone ad cap w).mono ?_
      rintro e w' ⟨rfl, rfl⟩
      exact ⟨_, rfl, im, ι, G, hv0, Stp.refl _ _ _ _⟩
  | false =>
    rw [hz] at e2
    simp only [cond_false] at e2
    have hpos : 0 < len := by
      rcases Nat.eq_zero_or_pos len with h0 | h0
      · subst h0; cases hz
      · exact h0
    cases hm : ob.rows.mapM intRow with
    | none => rw [hm] at e2; cases e2
    | some zs =>
      rw [hm] at e2
      simp only [Option.map_some, Option.some.injEq] at e2
      subst e2
      have hzl : zs.length = ob.rows.length := mapM_length hm
      have hrow : ∀ (i : Nat) n, zs[i]? = some n → ob.rows[i]? = some (rowI n) := fun i n hi => by
        obtain ⟨r, h1, h2⟩ := mapM_get' hm i n hi
        rw [h1, intRow_some h2]
      cases hv0 with
      | d hd => cases hd
      | @own _ _ _ o ad cap ho hl0 hcp hcur =>
        rw [hob] at ho; cases ho
        rcases hcur (by omega) with h0 | ⟨b, hb, rfl, hcapb⟩
        · omega
        obtain ⟨r0, hr0⟩ : ∃ r, r ∈ ob.rows := ⟨ob.rows[0]'(by omega), List.getElem_mem _⟩
        obtain ⟨b', c, et, hb', hcells, hcl, hrsz, hcell⟩ := G.at_ hob hr0 (.inl hfz)
        rw [hb] at hb'; cases hb'
        rw [hsz] at hcl hcell
        have hcz : ∀ (i : Nat) n, zs[i]? = some n → c[i]? = some (.int .i64 n) := fun i n hi => by
          obtain ⟨v, h1, h2, h3⟩ := hcell i 0 _ (.int .i64 n) (hrow i n hi) rfl
          simp only [Nat.mul_one, Nat.add_zero] at h1
          rw [h1, h3.int]
        have hholds : Sort.Holds (Value.int .i64) w b (0 * ob.sz) zs.toArray := fun j hj => by
          have hj' : j < zs.length := by simpa using hj
          have hcj := hcz j zs[j] (List.getElem?_eq_getElem hj')
          have hg : zs.toArray[j]! = zs[j] := by simp [hj']
          refine ⟨?_, ?_⟩
          · simp only [World.cell?, hcells, Option.isSome_none, Bool.false_eq_true, if_false, Nat.zero_mul, Nat.zero_add, hcj, hg]
          · simp [World.frozen?, hcells]
        have hlz : len = zs.length := by omega
        rw [hlz] at hcp ⊢
        refine (hsome b (0 * ob.sz) cap zs w hholds (by omega) hcp).mono ?_
        rintro e w' ⟨rfl, q, rfl⟩
        have hcle := compact_le zs
        obtain ⟨G1, s1⟩ := G.aheadN q
        have hcells1 : (Sort.ahead w q).heap[b]? = some (.cells c et (0, 0)) := hcells
        rw [putRow_eq hcells1]
        have hcs : (Sort.putCells (Value.int .i64) (0 * ob.sz) (Lib.compact zs ++ List.replicate (zs.length - (Lib.compact zs).length) 0).toArray c).size = c.size := by simp [Sort.putCells]
        have hll : (Lib.compact zs ++ List.replicate (zs.length - (Lib.compact zs).length) (0 : Int)).length = zs.length := by simp; omega
        obtain ⟨G2, s2⟩ := G1.write hob hfz hb hcells1 hcs ((Lib.compact zs ++ List.replicate (zs.length - (Lib.compact zs).length) 0).map rowI) (by rw [List.length_map, hll]; omega) (by rw [hcs, hsz, List.length_map, hll]; omega) (fun r hr => by
          obtain ⟨x, _, rfl⟩ := List.mem_map.1 hr; rw [hsz]; rfl) (fun i j r a h1 h2 => by
          rw [List.getElem?_map] at h1
          cases hx : (Lib.compact zs ++ List.replicate (zs.length - (Lib.compact zs).length) 0)[i]? with
          | none => rw [hx] at h1; cases h1
          | some x =>
            rw [hx] at h1
            simp only [Option.map_some, Option.some.injEq] at h1
            subst h1
            have hj0 : j = 0 := by
              have := (List.getElem?_eq_some_iff.1 h2).1; simp [rowI] at this; exact this
            subst hj0
            simp only [rowI, List.getElem?_cons_zero, Option.some.injEq] at h2
            subst h2
            have hil := (List.getElem?_eq_some_iff.1 hx).1
            have hic : i < c.size := by omega
            refine ⟨.int .i64 x, ?_, rfl, .d (.int _ _)⟩
            rw [hsz]
            simp only [Sort.putCells, Nat.mul_one, Nat.add_zero, Array.getElem?_mapIdx, Array.getElem?_eq_getElem hic, Option.map_some, Nat.zero_mul, Nat.zero_le, true_and, Nat.zero_add, List.size_toArray, hil, if_true, Nat.sub_zero]
            have : (Lib.compact zs ++ List.replicate (zs.length - (Lib.compact zs).length) 0).toArray[i]! = x := by
              have h5 := (List.getElem?_eq_some_iff.1 hx).2
              rw [getElem!_pos _ i (by simpa using hil)]
              simpa using h5
            rw [this])
        have hob2 : (h.set id { ob with rows := (Lib.compact zs ++ List.replicate (zs.length - (Lib.compact zs).length) 0).map rowI })[id]? = some { ob with rows := (Lib.compact zs ++ List.replicate (zs.length - (Lib.compact zs).length) 0).map rowI } := by
          rw [List.getElem?_set]; simp [hobl]
        obtain ⟨G3, s3⟩ := G2.detach (n := (Lib.compact zs).length) hob2 hfz hb (by simp) (ob.rows ++ [[]]) (by simp; omega)
        have hheap : (h.set id { ob with rows := (Lib.compact zs ++ List.replicate (zs.length - (Lib.compact zs).length) 0).map rowI }).set id ⟨ob.sz, true, ob.rows ++ [[]]⟩ ++ [(⟨ob.sz, false, ((Lib.compact zs ++ List.replicate (zs.length - (Lib.compact zs).length) 0).map rowI).take (Lib.compact zs).length⟩ : Obj)] =
            h.set id (Obj.mk 1 true (ob.rows ++ [[]])) ++ [Obj.mk 1 false ((Lib.compact zs).map rowI)] := by
          rw [List.set_set, hsz]
          congr 2
          rw [List.map_append]
          congr 1
          rw [List.take_left' (by simp)]
        simp only [List.length_set] at G3 s3
        rw [hheap] at G3 s3
        refine ⟨_, rfl, im, _, G3, ?_, (s1.trans s2).trans s3⟩
        refine .own (o := Obj.mk 1 false ((Lib.compact zs).map rowI)) (by simp) (by simp) (by omega) fun _ => .inr ⟨b, upd_self _ _ _, by simp, fun c2 e2 f2 hc2 => ?_⟩
        have hcb := hcapb c et (0, 0) hcells
        have hc3 := setRow_heap (Sort.ahead w q) b c (Sort.putCells (Value.int .i64) (0 * ob.sz) (Lib.compact zs ++ List.replicate (zs.length - (Lib.compact zs).length) 0).toArray c) et (0, 0) hcells1
        rw [hc3] at hc2
        cases hc2
        rw [hcs]
        rw [hsz] at hcb
        exact hcb
end Go.Ab

namespace Go.Ab
open Go
/-! '==' of flat structs. -/
def flatF (P : Program) : Nat → List Field → Bool
  | _, [] => true
  | j, f :: fs => f.name != "_" && Nat.beq f.offset j && (match P.underlying f.type with | some (.int _) => true | _ => false) && flatF P (j + 1) fs
theorem run_part1 {P : Program} {w : World} {t : TypeId} {cs : Array Value} {off : Nat} {v : Value} (ht : (match P.underlying t with | some (.int _) => true | _ => false) = true) (hv : cs[off]? = some v) :
    (part t cs off).run P w = .ok v w := by
  unfold part
  have : (isAgg t).run P w = .ok false w := by
    split at ht
    · rename_i k hk; simp [isAgg, run_underlying hk]
    · cases ht
  simp only [Sem.run_bind, this, Result.andThen_ok, Bool.false_eq_true, if_false, hv, Sem.run_pure]
theorem eqFields_ok {P : Program} {w : World} (d : Nat) (xs ys : Array Value) : ∀ (fs : List Field) (j : Nat) (b : Bool), flatF P j fs = true → fs.length + j = xs.size → eqV (xs.toList.drop j) (ys.toList.drop j) = some b →
    (Op.eqFields (d + 1) xs ys fs).run P w = .ok b w := by
  intro fs
  induction fs with
  | nil =>
    intro j b _ hl he
    rw [List.drop_eq_nil_of_le (by simp at hl ⊢; omega)] at he
    cases hy : ys.toList.drop j with
    | nil => rw [hy] at he; simp [eqV] at he; subst he; rfl
    | cons y l => rw [hy] at he; simp [eqV] at he
  | cons f fs ih =>
    intro j b hf hl he
    simp only [flatF, Bool.and_eq_true, bne_iff_ne, ne_eq] at hf
    obtain ⟨⟨⟨hn, ho⟩, ht⟩, hfs⟩ := hf
    have ho' := Nat.eq_of_beq_eq_true ho
    have hj : j < xs.size := by simp at hl; omega
    have hx : xs.toList.drop j = xs[j] :: xs.toList.drop (j + 1) := by
      rw [List.drop_eq_getElem_cons (by simpa using hj)]; simp
    rw [hx] at he
    cases hy : ys.toList.drop j with
    | nil => rw [hy] at he; cases hxj : xs[j] <;> rw [hxj] at he <;> simp [eqV] at he
    | cons y l =>
      rw [hy] at he
      have hyj : ys[j]? = some y := by
        have := congrArg List.head? hy
        rw [List.head?_drop] at this
        simpa using this
      have hyl : ys.toList.drop (j + 1) = l := by
        have := congrArg List.tail hy
        simpa using this
      have hxj : xs[j]? = some xs[j] := Array.getElem?_eq_getElem hj
      simp only [Op.eqFields, ne_eq, hn, not_false_eq_true, if_true, Sem.run_bind, ho', run_part1 ht hxj, run_part1 ht hyj, Result.andThen_ok]
      have fin : ∀ (r c : Bool), eqV (xs.toList.drop (j + 1)) l = some c → b = (r && c) → (Op.equalIn (d + 1) f.type xs[j] y).run P w = .ok r w →
          (((Op.equalIn (d + 1) f.type xs[j] y).run P w).andThen fun r w => Sem.run P (if (!r) = true then pure false else Op.eqFields (d + 1) xs ys fs) w) = .ok b w := fun r c hc hb hr => by
        rw [hr, Result.andThen_ok]
        cases r with
        | false => simp at hb; subst hb; rfl
        | true =>
          simp at hb; subst hb
          simp only [Bool.not_true, Bool.false_eq_true, if_false]
          exact ih (j + 1) b hfs (by simp at hl; omega) (by rw [hyl]; exact hc)
      split at ht
      · rename_i k hk
        cases hxv : xs[j] with
        | int k1 a =>
          cases hyv : y with
          | int k2 c =>
            rw [hxv, hyv] at he
            simp only [eqV] at he
            split at he
            case isFalse => cases he
            rename_i hkk
            subst hkk
            cases hc : eqV (xs.toList.drop (j + 1)) l with
            | none => rw [hc] at he; cases he
            | some c' =>
              rw [hc] at he
              simp only [Option.map_some, Option.some.injEq] at he
              have := fin (a == c) c' hc he.symm (by rw [hxv, hyv]; exact run_equalIn_int w d f.type k1 k a c hk)
              rw [hxv, hyv] at this
              exact this
          | _ => rw [hxv, hyv] at he; simp [eqV] at he
        | _ => rw [hxv] at he; simp [eqV] at he
      · cases ht
def eqB' (P : Program) (t n : Nat) : Bool := (match P.underlying t with | some (.struct fs) => Nat.beq fs.size n && flatF P 0 fs.toList | _ => false) && !P.stoodInHeld t && !P.eqGuardType P.depth t
theorem eqOk_of {P : Program} {t n : Nat} (h : eqB' P t n = true) : EqOk P t n := by
  intro x y xs ys b w hn he
  simp only [eqB', Bool.and_eq_true, Bool.not_eq_true'] at h
  obtain ⟨⟨h1, h2⟩, h3⟩ := h
  split at h1
  case h_2 => cases h1
  rename_i fs hu
  simp only [Bool.and_eq_true] at h1
  have hfo : P.fieldsOf t = fs := by simp [Program.fieldsOf, hu]
  have hrun : ∀ d w, (Op.equalIn (d + 2) t (.agg xs) (.agg ys)).run P w = .ok b w := fun d w => by
    rw [run_equalIn_agg w (d + 1) t xs ys (by rw [hfo]; exact hu) h2, hfo]
    exact eqFields_ok d xs ys fs.toList 0 b h1.2 (by have := Nat.eq_of_beq_eq_true h1.1; simp; omega) (by simpa using he)
  constructor
  · simp only [Sem.run_bind, run_eqGuard_agg w .eql t x y xs ys h3, Result.andThen_ok, run_eql_struct w t xs ys, hrun 9998 w]
  · simp only [Sem.run_bind, run_eqGuard_agg w .neq t x y xs ys h3, Result.andThen_ok, run_neq_struct w t xs ys, hrun 9998 w]
end Go.Ab

namespace Go.Ab
open Go
/-! Facts of closed calls, al functions done by hand. -/
/-- Are two values the same (to a depth)? -/
def eqD : Nat → A → A → Bool
  | 0, _, _ => false
  | n + 1, a, b => match a, b with
    | .int k x, .int k' y => decide (k = k') && decide (x = y)
    | .bool x, .bool y => x == y
    | .nils, .nils => true
    | .imm r, .imm r' => all2 (fun x y => all2 (eqD n) x y) r r'
    | .agg x, .agg y => all2 (eqD n) x y
    | _, _ => false
theorem all2_eq {α : Type} {f : α → α → Bool} (hf : ∀ a b, f a b = true → a = b) {l l' : List α} (h : all2 f l l' = true) : l = l' := by
  obtain ⟨h1, h2⟩ := all2_ok h
  apply List.ext_getElem?
  intro i
  rcases Nat.lt_or_ge i l.length with hi | hi
  · have hi' : i < l'.length := by omega
    rw [List.getElem?_eq_getElem hi, List.getElem?_eq_getElem hi']
    rw [hf _ _ (h2 i _ _ (List.getElem?_eq_getElem hi) (List.getElem?_eq_getElem hi'))]
  · rw [List.getElem?_eq_none hi, List.getElem?_eq_none (by omega)]
theorem eqD_ok : ∀ (n : Nat) (a b : A), eqD n a b = true → a = b
  | 0, _, _, h => by cases h
  | n + 1, a, b, h => by
    unfold eqD at h
    split at h
    · simp only [Bool.and_eq_true, decide_eq_true_eq] at h
      rw [h.1, h.2]
    · rw [eq_of_beq h]
    · rfl
    · rw [all2_eq (fun x y hxy => all2_eq (eqD_ok n) hxy) h]
    · rw [all2_eq (eqD_ok n) h]
    · cases h
abbrev Tbl := Nat → List (List A × A × H)
def factF (l : List (List A × A × H)) (args : List A) (h : H) : Option (A × H) := match h with
  | [] => (l.find? fun p => all2 (eqD 9) p.1 args).map fun p => p.2
  | _ => none
def factP (tbl : Tbl) : Nat → Option (List A → H → Option (A × H)) := fun f => match tbl f with
  | [] => none
  | l => some (factF l)
theorem fact_ok [Val] {P : Program} {tbl : Tbl} (ht : ∀ f, ∀ p ∈ tbl f, CallOK P (fun f' args h => if f' = f then (match h with | [] => bif all2 (eqD 9) p.1 args then some p.2 else none | _ => none) else none)) :
    ∀ f g, factP tbl f = some g → CallOK P (fun f' args h => if f' = f then g args h else none) := by
  intro f g hg f' args h r e
  simp only at e
  split at e
  case isFalse => cases e
  rename_i hf
  subst hf
  have hg' : g = factF (tbl f') := by
    unfold factP at hg
    split at hg
    · cases hg
    · rename_i l hl; cases hg; rfl
  subst hg'
  unfold factF at e
  split at e
  case h_2 => cases e
  obtain ⟨p, h1, h2⟩ := Option.map_eq_some_iff.1 e
  have hmem := List.mem_of_find?_eq_some h1
  have heq := List.find?_some h1
  exact ht f' p hmem f' args [] r (by simp [heq, h2])
/-- A fact of a run, al it is. -/
theorem fact_run [Val] {P : Program} {C : CO} (hC : CallOK P C) {f : Nat} {args : List A} {r0 : A × H} (hrun : C f args [] = some r0) :
    CallOK P (fun f' al h => if f' = f then (match h with | [] => bif all2 (eqD 9) args al then some r0 else none | _ => none) else none) := by
  intro f' al h r e
  simp only at e
  split at e
  case isFalse => cases e
  rename_i hf
  subst hf
  split at e
  case h_2 => cases e
  obtain ⟨h1, h2⟩ := bif_some e
  cases h2
  have : args = al := all2_eq (eqD_ok 9) h1
  subst this
  exact hC f' args [] r0 hrun
/-- A fact of a run, read deep. -/
theorem fact_pure [Val] {P : Program} {C : CO} (hC : CallOK P C) {f : Nat} {args : List A} {v : A} (hrun : callP C true f args [] = some v) :
    CallOK P (fun f' al h => if f' = f then (match h with | [] => bif all2 (eqD 9) args al then some (v, []) else none | _ => none) else none) := by
  intro f' al h r e
  simp only at e
  split at e
  case isFalse => cases e
  rename_i hf
  subst hf
  split at e
  case h_2 => cases e
  obtain ⟨h1, h2⟩ := bif_some e
  cases h2
  have : args = al := all2_eq (eqD_ok 9) h1
  subst this
  have c1 : Callable P f' := by
    unfold callP at hrun
    obtain ⟨al, g1, g2⟩ := bind_some' hrun
    obtain ⟨v, g3, _⟩ := bind_some' g2
    unfold runP at g3
    obtain ⟨q, g4, _⟩ := bind_some' g3
    exact (hC f' al [] q g4).1
  exact ⟨c1, fun w im ι vs G hl hr => (callP_ok hC G hl hr hrun).2⟩
end Go.Ab

namespace Go.Ab
open Go
abbrev sy0 : BinOp → A → A → Option A := fun _ _ _ => none
abbrev sc0 : IntKind → A → Option A := fun _ _ => none
abbrev pr0 : Nat → Option (List A → H → Option (A × H)) := fun _ => none
end Go.Ab
