/- ClassMakes. -/
import Derived.Test.YtdociniomegpnaaDoorCArg
import Derived.Test.YtdociniomegpnaaDoorCRefD
namespace Go.Proofs.YtdociniomegpnaaDoor.LClassMakes
open Go.RowKit CMem CBits CSet CMake COps CLen CMin CEqs CFold CRng CRuns CSame COf CFixed CFixW CPlain CArg CArr CRefA CRefB CRefC Go.Proofs.YtdociniomegpnaaDoorW.PrintWords Go.Proofs.YtdociniomegpnaaDoorW.PrintLast Go.Proofs.YtdociniomegpnaaDoorW.PrintMore
set_option linter.unusedVariables false
set_option linter.unusedSimpArgs false
set_option maxRecDepth 100000
set_option maxHeartbeats 12800000
theorem arr_lit (a b c d : Int) (W : World) : (binOp .eql 23 (.agg #[.int .u64 a, .int .u64 b, .int .u64 c, .int .u64 d]) (.agg #[.int .u64 a, .int .u64 b, .int .u64 c, .int .u64 d])).run Tryd.prog W = .ok (.bool true) W := by
  rw [arr_eq]
  simp
theorem fld_lit (a b c d : Int) (W : World) : (Instr.field 25 (.agg #[.int .u64 a, .int .u64 b, .int .u64 c, .int .u64 d]) 0).run Tryd.prog W = .ok (.agg #[.int .u64 a, .int .u64 b, .int .u64 c, .int .u64 d]) W := by kernel_rfl
theorem rng_tb (a b : Nat) : cb (fun i => decide (a ≤ i ∧ i ≤ b)) = cb (rg a (b + 1 - a)).testBit := cb_ext fun i _ => by
  rw [tb_rg, decide_eq_decide]
  omega
theorem one_rg (a : Nat) : rg a (a + 1 - a) = 2 ^ a := by
  rw [show a + 1 - a = 1 by omega]
  simp [rg]
theorem all_rg : rg 0 (255 + 1 - 0) = notN 0 := by kernel_rfl
attribute [-go_sem] Go.run_eql_struct in
theorem makes_walk (t : ByteArray) (ht : t.size ≤ 140737488351232) (a b : Nat) (ha : a < 256) (hb : b < 256) (w : World) (hT : Tab w) :
    Calls Tryd.prog 4 #[.string t, .int .u8 a, .int .u8 b] w fun e w' => e = .returned (.bool true) ∧ Below w.heap.size w w' := by
  have ba0 : (0 : Int) ≤ (a : Int) := by omega
  have ba1 : (a : Int) ≤ 255 := by omega
  have hx : (t.extract 0 300).size ≤ 140737488351232 := by rw [ByteArray.size_extract]; omega
  have k1 := fun W => of_calls t ht W
  have k2 := fun W => of_calls (t.extract 0 300) hx W
  have k3 := fun W => text_calls t ht W
  have k4 := fun W => text_calls (t.extract 0 300) hx W
  have k5 := fun W => words_calls (tx t t.size) W
  have k6 := fun W => words_calls (tx (t.extract 0 300) (t.extract 0 300).size) W
  have k7 := fun W => CMake.range_calls a b ha hb W
  have k8 := fun W => CArr.range_calls a b ha hb W
  rw [rng_tb] at k8
  have k9 := fun W => words_calls (rg a (b + 1 - a)) W
  have kA := fun W => one_calls a ha W
  have kB := fun W => CArr.range_calls a a ha ha W
  rw [rng_tb, one_rg] at kB
  have kC := fun W => words_calls (2 ^ a) W
  have kD := fun W => all_calls W
  have kE := fun W => CArr.range_calls 0 255 (by decide) (by decide) W
  rw [rng_tb, all_rg, show ((0 : Nat) : Int) = 0 from rfl, show ((255 : Nat) : Int) = 255 from rfl] at kE
  have kF := fun W => words_calls (notN 0) W
  unfold sc at k1 k2 k5 k6 k7 k9 kA kC kD kF
  generalize cb (tx t t.size).testBit = X1 at *
  generalize cb (tx (t.extract 0 300) (t.extract 0 300).size).testBit = X2 at *
  generalize cb (rg a (b + 1 - a)).testBit = X3 at *
  generalize cb (2 ^ a).testBit = X4 at *
  generalize cb (notN 0).testBit = X5 at *
  generalize wd (tx t t.size) 0 = o0 at *
  generalize wd (tx t t.size) 1 = o1 at *
  generalize wd (tx t t.size) 2 = o2 at *
  generalize wd (tx t t.size) 3 = o3 at *
  generalize wd (tx (t.extract 0 300) (t.extract 0 300).size) 0 = p0 at *
  generalize wd (tx (t.extract 0 300) (t.extract 0 300).size) 1 = p1 at *
  generalize wd (tx (t.extract 0 300) (t.extract 0 300).size) 2 = p2 at *
  generalize wd (tx (t.extract 0 300) (t.extract 0 300).size) 3 = p3 at *
  generalize wd (rg a (b + 1 - a)) 0 = r0 at *
  generalize wd (rg a (b + 1 - a)) 1 = r1 at *
  generalize wd (rg a (b + 1 - a)) 2 = r2 at *
  generalize wd (rg a (b + 1 - a)) 3 = r3 at *
  generalize wd (2 ^ a) 0 = q0 at *
  generalize wd (2 ^ a) 1 = q1 at *
  generalize wd (2 ^ a) 2 = q2 at *
  generalize wd (2 ^ a) 3 = q3 at *
  generalize wd (notN 0) 0 = n0 at *
  generalize wd (notN 0) 1 = n1 at *
  generalize wd (notN 0) 2 = n2 at *
  generalize wd (notN 0) 3 = n3 at *
  have K1 := Lib.hid k1
  clear k1
  have K2 := Lib.hid k2
  clear k2
  have K3 := Lib.hid k3
  clear k3
  have K4 := Lib.hid k4
  clear k4
  have K5 := Lib.hid k5
  clear k5
  have K6 := Lib.hid k6
  clear k6
  have K7 := Lib.hid k7
  clear k7
  have K8 := Lib.hid k8
  clear k8
  have K9 := Lib.hid k9
  clear k9
  have KA := Lib.hid kA
  clear kA
  have KB := Lib.hid kB
  clear kB
  have KC := Lib.hid kC
  clear kC
  have KD := Lib.hid kD
  clear kD
  have KE := Lib.hid kE
  clear kE
  have KF := Lib.hid kF
  clear kF
  have HB0 := Lib.hid (Below.refl w.heap.size w)
  have HT := Lib.hid hT
  have ae := arr_lit
  have af := fld_lit
  clear ha hb ht hx hT
  generalize (a : Int) = a at *
  generalize (b : Int) = b at *
  go_enter Tryd.func4, Tryd.ntmps4
  go_wp2_with (first
    | (go_at_call 29; (with_reducible refine (K1.out _).mono ?_); (rintro e w1 ⟨rfl, hb1⟩); (have HB0 := Lib.hid (below_step HB0.out hb1)); clear hb1)
    | (go_at_call 29; (with_reducible refine (K2.out _).mono ?_); (rintro e w1 ⟨rfl, hb1⟩); (have HB0 := Lib.hid (below_step HB0.out hb1)); clear hb1)
    | (go_at_call 30; (with_reducible refine (K3.out _).mono ?_); (rintro e w1 ⟨rfl, hb1⟩); (have HB0 := Lib.hid (below_step HB0.out hb1)); clear hb1)
    | (go_at_call 30; (with_reducible refine (K4.out _).mono ?_); (rintro e w1 ⟨rfl, hb1⟩); (have HB0 := Lib.hid (below_step HB0.out hb1)); clear hb1)
    | (go_at_call 20; (with_reducible refine (K5.out _).mono ?_); (rintro e w1 ⟨rfl, hb1⟩); (have HB0 := Lib.hid (below_step HB0.out hb1)); clear hb1)
    | (go_at_call 20; (with_reducible refine (K6.out _).mono ?_); (rintro e w1 ⟨rfl, hb1⟩); (have HB0 := Lib.hid (below_step HB0.out hb1)); clear hb1)
    | (go_at_call 31; (with_reducible refine (K7.out _).mono ?_); (rintro e w1 ⟨rfl, hb1⟩); (have HB0 := Lib.hid (below_step HB0.out hb1)); clear hb1)
    | (go_at_call 32; (with_reducible refine (K8.out _).mono ?_); (rintro e w1 ⟨rfl, hb1⟩); (have HB0 := Lib.hid (below_step HB0.out hb1)); clear hb1)
    | (go_at_call 20; (with_reducible refine (K9.out _).mono ?_); (rintro e w1 ⟨rfl, hb1⟩); (have HB0 := Lib.hid (below_step HB0.out hb1)); clear hb1)
    | (go_at_call 33; (with_reducible refine (KA.out _).mono ?_); (rintro e w1 ⟨rfl, hb1⟩); (have HB0 := Lib.hid (below_step HB0.out hb1)); clear hb1)
    | (go_at_call 32; (with_reducible refine (KB.out _).mono ?_); (rintro e w1 ⟨rfl, hb1⟩); (have HB0 := Lib.hid (below_step HB0.out hb1)); clear hb1)
    | (go_at_call 20; (with_reducible refine (KC.out _).mono ?_); (rintro e w1 ⟨rfl, hb1⟩); (have HB0 := Lib.hid (below_step HB0.out hb1)); clear hb1)
    | (go_at_call 34; (with_reducible refine (KD.out _).mono ?_); (rintro e w1 ⟨rfl, hb1⟩); (have HB0 := Lib.hid (below_step HB0.out hb1)); clear hb1)
    | (go_at_call 32; (with_reducible refine (KE.out _).mono ?_); (rintro e w1 ⟨rfl, hb1⟩); (have HB0 := Lib.hid (below_step HB0.out hb1)); clear hb1)
    | (go_at_call 20; (with_reducible refine (KF.out _).mono ?_); (rintro e w1 ⟨rfl, hb1⟩); (have HB0 := Lib.hid (below_step HB0.out hb1)); clear hb1)
    | (go_at_call 28; (with_reducible refine (fixed_calls _ (HT.out.below HB0.out)).mono ?_); (rintro e w1 ⟨rfl, hb1⟩); (have HB0 := Lib.hid (below_step HB0.out hb1)); clear hb1))
  all_goals
    go_ret
    exact ⟨rfl, HB0.out⟩
theorem classMakes_row (t : ByteArray) (a b : Int) (w : World) (hT : Tab w) (ht : t.size ≤ 140737488351232) (ha : (Lit.int .u8 a).wf = true) (hb : (Lit.int .u8 b).wf = true) :
    Calls Tryd.prog 4 #[.string t, .int .u8 a, .int .u8 b] w fun e w' => e = .returned (.bool true) ∧ Below w.heap.size w w' := by
  obtain ⟨a, rfl, la⟩ := u8_of ha
  obtain ⟨b, rfl, lb⟩ := u8_of hb
  exact makes_walk t ht a b la lb w hT
end Go.Proofs.YtdociniomegpnaaDoor.LClassMakes
