/- TakeHops answers true, whatever its four numbers, and leaves what was there as it was. -/
import Derived.Test.YtaifojkkklacmaaGreatDoorTh
import Derived.Test.YtaifojkkklacmaaGreatDoorHt
import Derived.Test.YtaifojkkklacmaaGreatDoorK0
import Derived.Test.YtaifojkkklacmaaGreatDoorK1
import Derived.Test.YtaifojkkklacmaaGreatDoorK2
import Derived.Test.YtaifojkkklacmaaGreatDoorK3
set_option linter.unusedVariables false
set_option linter.unusedSimpArgs false
set_option linter.unusedSectionVars false
set_option linter.unnecessarySimpa false
set_option maxRecDepth 100000
namespace Go.Ab
open Go
/-! TakeHops answers true, whatever the numbers. -/
theorem wrap_small {n : Int} (h0 : 0 ≤ n) (h1 : n < 9223372036854775808) : IntKind.i64.wrap n = n := by
  have e : IntKind.i64.wrap n = if n % 18446744073709551616 ≥ 9223372036854775808 then n % 18446744073709551616 - 18446744073709551616 else n % 18446744073709551616 := by
    simp [IntKind.wrap, IntKind.bits, IntKind.signed]
  rw [e]
  split <;> omega
theorem wrap_u (n : Int) : 0 ≤ IntKind.u64.wrap n := by
  have e : IntKind.u64.wrap n = n % 18446744073709551616 := by simp [IntKind.wrap, IntKind.bits, IntKind.signed]
  rw [e]
  omega
theorem scH_ok (V : Val) (h0 : V.ρ 20 = IntKind.u64.wrap (V.ρ 10)) (h1 : V.ρ 21 = IntKind.u64.wrap (V.ρ 11)) (h2 : V.ρ 22 = IntKind.u64.wrap (V.ρ 12)) (h3 : V.ρ 23 = IntKind.u64.wrap (V.ρ 13))
    (h4 : IntKind.i64.wrap (V.ρ 32) = V.ρ 42) (h5 : IntKind.i64.wrap (V.ρ 33) = V.ρ 44) : ∀ k x a, scH k x = some a → convA k (@vA V x) = some (@vA V a) := fun k x a he => by
  unfold scH at he
  split at he <;> cases he <;> simp [vA, convA, *]
theorem syH0_ok (V : Val) {T B : Int} (h0 : (V.ρ 20).tmod 4 = T) (h1 : (V.ρ 21).tmod 6 = B) (h2 : V.ρ 32 = (V.ρ 22).tmod 17) (h3 : V.ρ 33 = (V.ρ 23).tmod 1000) (h4 : 0 ≤ V.ρ 42) (h5 : V.ρ 42 < 16)
    (h6 : V.ρ 43 = V.ρ 42 + 1) (h7 : 0 ≤ V.ρ 44) (h8 : V.ρ 44 < 1000) : ∀ op x y a, syH0 T B op x y = some a → binA op (@vA V x) (@vA V y) = some (@vA V a) := fun op x y a he => by
  unfold syH0 at he
  split at he
  · cases he; simp [vA, binA, arith, h0]
  · cases he; simp [vA, binA, arith, h1]
  · cases he; simp [vA, binA, arith, h2]
  · cases he; simp [vA, binA, arith, h3]
  · cases he; simp only [vA, binA, arith]; rw [wrap_small (by omega) (by omega), h6]; simp
  · cases he; simp [vA, binA, arith]; omega
  · cases he; simp [vA, binA, arith]
  · cases he; simp [vA, binA, arith]
  · cases he; simp [vA, binA, arith]; omega
  · cases he; simp [vA, binA, arith]; omega
  · cases he; simp [vA, binA, arith]; omega
  · cases he; simp [vA, binA, arith]; omega
  · cases he; simp [vA, binA, arith]; omega
  · cases he; simp [vA, binA, arith]; omega
  · cases he; simp [vA, binA, arith]; omega
  · cases he
theorem syH1_ok (V : Val) {T B : Int} (h0 : (V.ρ 20).tmod 4 = T) (h1 : (V.ρ 21).tmod 6 = B) (h2 : (V.ρ 22).tmod 17 = 16) (h3 : V.ρ 33 = (V.ρ 23).tmod 1000)
    (h7 : 0 ≤ V.ρ 44) (h8 : V.ρ 44 < 1000) : ∀ op x y a, syH1 T B op x y = some a → binA op (@vA V x) (@vA V y) = some (@vA V a) := fun op x y a he => by
  unfold syH1 at he
  split at he
  · cases he; simp [vA, binA, arith, h0]
  · cases he; simp [vA, binA, arith, h1]
  · cases he; simp [vA, binA, arith, h2]
  · cases he; simp [vA, binA, arith, h3]
  · cases he; simp [vA, binA, arith]; omega
  · cases he; simp [vA, binA, arith]; omega
  · cases he
def Answers (n : Nat) (args : List Value) : Prop := ∀ w : World, Calls Go.Proofs.Tryz.prog n args.toArray w fun e w' => e = .returned (.bool true) ∧ w'.os = w.os ∧ w'.tape = w.tape ∧ w'.output = w.output ∧ w.heap.size ≤ w'.heap.size ∧ ∀ b, b < w.heap.size → w'.heap[b]? = w.heap[b]?
theorem answers_of (V : Val) {C : CO} (hC : CallOK Go.Proofs.Tryz.prog C) {n : Nat} {al : List A} {vs : List Value} (hrun : runP C n al = some (.bool true)) (has : al.mapM (frz [] true 6) = some al) (hl : vs.length = al.length)
    (hr : ∀ w im ι (i : Nat) v a, vs[i]? = some v → al[i]? = some a → RepA w im ι [] v a) : Answers n vs := fun w => by
  have e : callP C true n al [] = some (.bool true) := by
    unfold callP; rw [has, Option.bind_some, hrun]; rfl
  have := (callP_ok (im := fun _ => False) (ι := fun _ => none) hC (HRep.nil (w := w) fun b hb => hb.elim) hl (hr w _ _) e).2
  refine this.mono ?_
  rintro e' w' ⟨v, rfl, im', ι', G, hra, st⟩
  obtain rfl := hra.bool
  exact ⟨rfl, st.os, st.tape, st.output, st.size, fun b hb => st.blk b hb Wr.nil⟩
theorem argsH_rep (V : Val) (w : World) (im : Nat → Prop) (ι : Nat → Option Nat) (i : Nat) (v : Value) (a : A) (hv : [Value.int .i64 (V.ρ 10), .int .i64 (V.ρ 11), .int .i64 (V.ρ 12), .int .i64 (V.ρ 13)][i]? = some v) (ha : argsH[i]? = some a) : RepA w im ι [] v a := by
  match i, hv, ha with
  | 0, hv, ha => cases ha; cases hv; exact .d (.sym .i64 10)
  | 1, hv, ha => cases ha; cases hv; exact .d (.sym .i64 11)
  | 2, hv, ha => cases ha; cases hv; exact .d (.sym .i64 12)
  | 3, hv, ha => cases ha; cases hv; exact .d (.sym .i64 13)
  | i + 4, hv, ha => simp [argsH] at ha
theorem run0 : ∀ T B : Int, 0 ≤ T → T < 4 → 0 ≤ B → B < 6 → runP (evN (EH0 T B) 60).1 4 argsH = some (.bool true) := by
  intro T B h1 h2 h3 h4
  obtain rfl | rfl | rfl | rfl : T = 0 ∨ T = 1 ∨ T = 2 ∨ T = 3 := by omega
  · obtain rfl | rfl | rfl | rfl | rfl | rfl : B = 0 ∨ B = 1 ∨ B = 2 ∨ B = 3 ∨ B = 4 ∨ B = 5 := by omega
    · exact th0_0_0
    · exact th0_0_1
    · exact th0_0_2
    · exact th0_0_3
    · exact th0_0_4
    · exact th0_0_5
  · obtain rfl | rfl | rfl | rfl | rfl | rfl : B = 0 ∨ B = 1 ∨ B = 2 ∨ B = 3 ∨ B = 4 ∨ B = 5 := by omega
    · exact th0_1_0
    · exact th0_1_1
    · exact th0_1_2
    · exact th0_1_3
    · exact th0_1_4
    · exact th0_1_5
  · obtain rfl | rfl | rfl | rfl | rfl | rfl : B = 0 ∨ B = 1 ∨ B = 2 ∨ B = 3 ∨ B = 4 ∨ B = 5 := by omega
    · exact th0_2_0
    · exact th0_2_1
    · exact th0_2_2
    · exact th0_2_3
    · exact th0_2_4
    · exact th0_2_5
  · obtain rfl | rfl | rfl | rfl | rfl | rfl : B = 0 ∨ B = 1 ∨ B = 2 ∨ B = 3 ∨ B = 4 ∨ B = 5 := by omega
    · exact th0_3_0
    · exact th0_3_1
    · exact th0_3_2
    · exact th0_3_3
    · exact th0_3_4
    · exact th0_3_5
theorem run1 : ∀ T B : Int, 0 ≤ T → T < 4 → 0 ≤ B → B < 6 → runP (evN (EH1 T B) 60).1 4 argsH = some (.bool true) := by
  intro T B h1 h2 h3 h4
  obtain rfl | rfl | rfl | rfl : T = 0 ∨ T = 1 ∨ T = 2 ∨ T = 3 := by omega
  · obtain rfl | rfl | rfl | rfl | rfl | rfl : B = 0 ∨ B = 1 ∨ B = 2 ∨ B = 3 ∨ B = 4 ∨ B = 5 := by omega
    · exact th1_0_0
    · exact th1_0_1
    · exact th1_0_2
    · exact th1_0_3
    · exact th1_0_4
    · exact th1_0_5
  · obtain rfl | rfl | rfl | rfl | rfl | rfl : B = 0 ∨ B = 1 ∨ B = 2 ∨ B = 3 ∨ B = 4 ∨ B = 5 := by omega
    · exact th1_1_0
    · exact th1_1_1
    · exact th1_1_2
    · exact th1_1_3
    · exact th1_1_4
    · exact th1_1_5
  · obtain rfl | rfl | rfl | rfl | rfl | rfl : B = 0 ∨ B = 1 ∨ B = 2 ∨ B = 3 ∨ B = 4 ∨ B = 5 := by omega
    · exact th1_2_0
    · exact th1_2_1
    · exact th1_2_2
    · exact th1_2_3
    · exact th1_2_4
    · exact th1_2_5
  · obtain rfl | rfl | rfl | rfl | rfl | rfl : B = 0 ∨ B = 1 ∨ B = 2 ∨ B = 3 ∨ B = 4 ∨ B = 5 := by omega
    · exact th1_3_0
    · exact th1_3_1
    · exact th1_3_2
    · exact th1_3_3
    · exact th1_3_4
    · exact th1_3_5
theorem hops0 (V : Val) (g0 : V.ρ 20 = IntKind.u64.wrap (V.ρ 10)) (g1 : V.ρ 21 = IntKind.u64.wrap (V.ρ 11)) (g2 : V.ρ 22 = IntKind.u64.wrap (V.ρ 12)) (g3 : V.ρ 23 = IntKind.u64.wrap (V.ρ 13))
    (h2 : V.ρ 32 = (V.ρ 22).tmod 17) (h3 : V.ρ 33 = (V.ρ 23).tmod 1000) (k2 : V.ρ 42 = V.ρ 32) (k3 : V.ρ 44 = V.ρ 33) (k4 : V.ρ 43 = V.ρ 42 + 1) :
    Answers 4 [.int .i64 (V.ρ 10), .int .i64 (V.ρ 11), .int .i64 (V.ρ 12), .int .i64 (V.ρ 13)] := by
  have u0 := wrap_u (V.ρ 10)
  have u1 := wrap_u (V.ρ 11)
  have u2 := wrap_u (V.ρ 12)
  have u3 := wrap_u (V.ρ 13)
  rw [← g0] at u0
  rw [← g1] at u1
  rw [← g2] at u2
  rw [← g3] at u3
  have t0 := Int.tmod_nonneg 4 u0
  have t0' := Int.tmod_lt_of_pos (V.ρ 20) (show (0 : Int) < 4 by omega)
  have t1 := Int.tmod_nonneg 6 u1
  have t1' := Int.tmod_lt_of_pos (V.ρ 21) (show (0 : Int) < 6 by omega)
  have t2 := Int.tmod_nonneg 17 u2
  have t2' := Int.tmod_lt_of_pos (V.ρ 22) (show (0 : Int) < 17 by omega)
  have t3 := Int.tmod_nonneg 1000 u3
  have t3' := Int.tmod_lt_of_pos (V.ρ 23) (show (0 : Int) < 1000 by omega)
  have hc := scH_ok V g0 g1 g2 g3 (by rw [wrap_small (by omega) (by omega), k2]) (by rw [wrap_small (by omega) (by omega), k3])
  by_cases h16 : (V.ρ 22).tmod 17 = 16
  · have hs := syH1_ok V (T := (V.ρ 20).tmod 4) (B := (V.ρ 21).tmod 6) rfl rfl h16 h3 (by omega) (by omega)
    exact answers_of V (ev_ok (env1 (pr := factP tbl2) hs hc) (prim1 (fact_ok ht2)) 60).1 (run1 _ _ t0 t0' t1 t1') rfl rfl fun w im ι i v a hv ha => argsH_rep V w im ι i v a hv ha
  · have hs := syH0_ok V (T := (V.ρ 20).tmod 4) (B := (V.ρ 21).tmod 6) rfl rfl h2 h3 (by omega) (by omega) k4 (by omega) (by omega)
    exact answers_of V (ev_ok (env1 (pr := factP tbl2) hs hc) (prim1 (fact_ok ht2)) 60).1 (run0 _ _ t0 t0' t1 t1') rfl rfl fun w im ι i v a hv ha => argsH_rep V w im ι i v a hv ha
/-- TakeHops: it answers true, and leaves what was there as it was. -/
theorem takeHops_any (t a hp v : Int) : Answers 4 [.int .i64 t, .int .i64 a, .int .i64 hp, .int .i64 v] :=
  hops0 ⟨fun i => match i with
    | 10 => t | 11 => a | 12 => hp | 13 => v
    | 20 => IntKind.u64.wrap t | 21 => IntKind.u64.wrap a | 22 => IntKind.u64.wrap hp | 23 => IntKind.u64.wrap v
    | 32 => (IntKind.u64.wrap hp).tmod 17 | 33 => (IntKind.u64.wrap v).tmod 1000
    | 42 => (IntKind.u64.wrap hp).tmod 17 | 44 => (IntKind.u64.wrap v).tmod 1000 | 43 => (IntKind.u64.wrap hp).tmod 17 + 1
    | _ => 0⟩ rfl rfl rfl rfl rfl rfl rfl rfl rfl
end Go.Ab
