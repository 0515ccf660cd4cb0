/- The Lean side of Go functions of this seat: what each answers, and that its run comes to that answer; written by a program of this work. -/
import Derived.Test.YtbhdnhpkpbhilaaPFnFramesx0
import Derived.Test.YtbhdnhpkpbhilaaPFnFramesx2
import Derived.Test.YtbhdnhpkpbhilaaPFnFramesx3
namespace Go.Proofs.Ytbhdnhpkpbhilaa.PFnFrames
open Go.RowKit Go.Proofs.YtbhdnhpkpbhilaaW.PrintWords Go.Proofs.YtbhdnhpkpbhilaaW.PrintLast Go.Proofs.YtbhdnhpkpbhilaaW.PrintMore
attribute [local go_sem] max2_int min2_int max_two min_two max_three min_three max_four min_four   -- for this text's walks alone
set_option linter.unusedVariables false
set_option linter.unusedSimpArgs false

/-! ### impl_ReadReport: function 21 -/
def impl_ReadReport.f (k : Nat) (l0 : List Int) : Option (Int × Int × Int × Int × Int × Int × Int) := if (l0.length : Int) = 16 then (if 14 ≤ (l0.length : Int) then ((impl_frameCheck.f k (l0.take 14)).bind fun t228 => (if 14 < (l0.length : Int) then (if 15 < (l0.length : Int) then (if t228 = (Go.bits .or .i64 (wrap64 ((wrap64 (rd l0 14)) * 256)) (wrap64 (rd l0 15))) then (if 0 < (l0.length : Int) then (if 1 < (l0.length : Int) then (if 2 < (l0.length : Int) then (if 3 < (l0.length : Int) then (if 4 < (l0.length : Int) then (if 5 ≤ (l0.length : Int) then ((impl_number24.f (l0.drop 5)).bind fun t237 => (if 8 ≤ (l0.length : Int) then ((impl_number24.f (l0.drop 8)).bind fun t239 => (if 11 < (l0.length : Int) then (if 12 < (l0.length : Int) then (if 13 < (l0.length : Int) then (if (rd l0 13) = 0 then ((impl_ReportOk.f (wrap64 (rd l0 0)) (Go.bits .or .i64 (Go.bits .or .i64 (Go.bits .or .i64 (wrap64 ((wrap64 (rd l0 1)) * 16777216)) (wrap64 ((wrap64 (rd l0 2)) * 65536))) (wrap64 ((wrap64 (rd l0 3)) * 256))) (wrap64 (rd l0 4))) t237 t239 (wrap64 (rd l0 11)) (wrap64 (rd l0 12))).bind fun t244 => (if t244 = true then (some (wrap64 (rd l0 0), Go.bits .or .i64 (Go.bits .or .i64 (Go.bits .or .i64 (wrap64 ((wrap64 (rd l0 1)) * 16777216)) (wrap64 ((wrap64 (rd l0 2)) * 65536))) (wrap64 ((wrap64 (rd l0 3)) * 256))) (wrap64 (rd l0 4)), t237, t239, wrap64 (rd l0 11), wrap64 (rd l0 12), 0)) else (some (0, 0, 0, 0, 0, 0, 3)))) else (some (0, 0, 0, 0, 0, 0, 3))) else (none)) else (none)) else (none))) else (none))) else (none)) else (none)) else (none)) else (none)) else (none)) else (none)) else (some (0, 0, 0, 0, 0, 0, 2))) else (none)) else (none))) else (none)) else (some (0, 0, 0, 0, 0, 0, 1))
theorem impl_ReadReport.mono : ∀ a0 k, LeO (impl_ReadReport.f k a0) (impl_ReadReport.f (k + 1) a0) := by
 intro a0 k
 unfold impl_ReadReport.f
 repeat' first
   | (with_reducible exact impl_frameCheck.mono _ _)
   | (with_reducible exact LeO.refl _)
   | (with_reducible exact LeO.none _)
   | (with_reducible refine LeO.ite ?_ ?_)
   | (with_reducible refine LeO.bind ?_ (fun _ => ?_))
   | exact impl_frameCheck.mono _ _
   | exact LeO.none _
   | refine LeO.ite ?_ ?_
   | refine LeO.bind ?_ (fun _ => ?_)
def impl_ReadReport.T4 : Bool × List (List Nat × List Nat) := (true, [([], []), ([0], [0]), ([1], [1]), ([], []), ([3], [3]), ([4], [4]), ([5], [5]), ([6], [6]), ([], []), ([8], [8]), ([9], [9]), ([10], [10]), ([7, 11], [7, 11]), ([2, 12], [2, 12])])
def impl_ReadReport.B4 : List Nat := [0, 1, 3, 0, 8, 24, 56, 120, 0, 256, 768, 1792, 4088, 8191]
theorem impl_ReadReport.tab4 : rtab .any (opsOf Try.f21 4) = impl_ReadReport.T4 := by kernel_rfl
theorem impl_ReadReport.bits4 : waitsOk impl_ReadReport.T4.2 impl_ReadReport.B4 = true := by kernel_rfl
def impl_ReadReport.T6 : Bool × List (List Nat × List Nat) := (true, [([], []), ([0], [0]), ([1], [1]), ([2], [2]), ([], []), ([4], [4]), ([5], [5]), ([6], [6]), ([7], [7]), ([], []), ([9], [9]), ([10], [10]), ([11], [11]), ([12], [12]), ([8, 13], [8, 13]), ([], []), ([15], [15]), ([16], [16]), ([17], [17]), ([18], [18]), ([14, 19], [14, 19]), ([], []), ([21], [21]), ([22], [22]), ([23], [23]), ([20, 24], [20, 24]), ([], []), ([26], [26]), ([27], [27]), ([], []), ([29], [29]), ([30, 28], [30]), ([], []), ([32], [32]), ([33], [33]), ([34], [34]), ([], []), ([36], [36]), ([37], [37]), ([38], [38]), ([3, 25, 28, 31, 35, 39], [3, 25, 28, 31, 35, 39]), ([], []), ([41, 40, 31, 0, 1, 2, 3, 4, 5, 6, 7, 8, 9, 10, 11, 12, 13, 14, 15, 16, 17, 18, 19, 20, 21, 22, 23, 24, 25, 26, 27, 28, 29, 30, 31, 32, 33, 34, 35, 36, 37, 38, 39, 40, 41], [40, 41])])
def impl_ReadReport.B6 : List Nat := [0, 1, 3, 7, 0, 16, 48, 112, 240, 0, 512, 1536, 3584, 7680, 16368, 0, 32768, 98304, 229376, 491520, 1048560, 0, 2097152, 6291456, 14680064, 33554416, 0, 67108864, 201326592, 0, 536870912, 2080374784, 0, 4294967296, 12884901888, 30064771072, 0, 68719476736, 206158430208, 481036337152, 1099511627775, 0, 4398046511103]
theorem impl_ReadReport.tab6 : rtab .any (opsOf Try.f21 6) = impl_ReadReport.T6 := by kernel_rfl
theorem impl_ReadReport.bits6 : waitsOk impl_ReadReport.T6.2 impl_ReadReport.B6 = true := by kernel_rfl
set_option maxHeartbeats 8000000 in
set_option maxRecDepth 100000 in
theorem impl_ReadReport.calls (k : Nat) (A0 : Option Addr) (c0 : Nat) (l0 : List Int) (r1 : Int) (r2 : Int) (r3 : Int) (r4 : Int) (r5 : Int) (r6 : Int) (r7 : Int) (w : World) (hr0 : Kd.C (Kd.int .u8) w A0 l0.length l0) (hc0 : l0.length ≤ c0) (h : impl_ReadReport.f k l0 = some (r1, r2, r3, r4, r5, r6, r7)) :
  Calls Try.prog 21 #[.slice A0 l0.length c0] w fun e w' => e = .returned (.tuple #[.agg #[.int .i64 r1, .int .i64 r2, .int .i64 r3, .int .i64 r4, .int .i64 r5, .int .i64 r6], .int .i64 r7]) ∧ Below w.heap.size w w' := by
 have hu35 := Try.underlying35
 have HR0 := Aside0.mk hr0
 have HC0 := Aside0.mk hc0
 clear hr0 hc0
 have HB := Aside0.mk (Below.refl w.heap.size w)
 have H : (if (l0.length : Int) = 16 then (if 14 ≤ (l0.length : Int) then ((impl_frameCheck.f k (l0.take 14)).bind fun t228 => (if 14 < (l0.length : Int) then (if 15 < (l0.length : Int) then (if t228 = (Go.bits .or .i64 (wrap64 ((wrap64 (rd l0 14)) * 256)) (wrap64 (rd l0 15))) then (if 0 < (l0.length : Int) then (if 1 < (l0.length : Int) then (if 2 < (l0.length : Int) then (if 3 < (l0.length : Int) then (if 4 < (l0.length : Int) then (if 5 ≤ (l0.length : Int) then ((impl_number24.f (l0.drop 5)).bind fun t237 => (if 8 ≤ (l0.length : Int) then ((impl_number24.f (l0.drop 8)).bind fun t239 => (if 11 < (l0.length : Int) then (if 12 < (l0.length : Int) then (if 13 < (l0.length : Int) then (if (rd l0 13) = 0 then ((impl_ReportOk.f (wrap64 (rd l0 0)) (Go.bits .or .i64 (Go.bits .or .i64 (Go.bits .or .i64 (wrap64 ((wrap64 (rd l0 1)) * 16777216)) (wrap64 ((wrap64 (rd l0 2)) * 65536))) (wrap64 ((wrap64 (rd l0 3)) * 256))) (wrap64 (rd l0 4))) t237 t239 (wrap64 (rd l0 11)) (wrap64 (rd l0 12))).bind fun t244 => (if t244 = true then (some (wrap64 (rd l0 0), Go.bits .or .i64 (Go.bits .or .i64 (Go.bits .or .i64 (wrap64 ((wrap64 (rd l0 1)) * 16777216)) (wrap64 ((wrap64 (rd l0 2)) * 65536))) (wrap64 ((wrap64 (rd l0 3)) * 256))) (wrap64 (rd l0 4)), t237, t239, wrap64 (rd l0 11), wrap64 (rd l0 12), 0)) else (some (0, 0, 0, 0, 0, 0, 3)))) else (some (0, 0, 0, 0, 0, 0, 3))) else (none)) else (none)) else (none))) else (none))) else (none)) else (none)) else (none)) else (none)) else (none)) else (none)) else (some (0, 0, 0, 0, 0, 0, 2))) else (none)) else (none))) else (none)) else (some (0, 0, 0, 0, 0, 0, 1))) = some (r1, r2, r3, r4, r5, r6, r7) := h
 clear h
 by_cases c2 : (l0.length : Int) = 16
 ·rw [if_pos c2] at H
  have c2b0 : ((l0.length : Int) == 16) = true := beq_iff_eq.mpr c2
  have c2b1 : ((l0.length : Int) != 16) = false := bne_eq_false_iff_eq.mpr c2
  clear c2
  by_cases c3 : 14 ≤ (l0.length : Int)
  ·rw [if_pos c3] at H
   have c3b0 := eq_true c3
   have c3b1 : decide (14 ≤ (l0.length : Int)) = true := decide_eq_true c3
   clear c3
   replace H := Option.bind_eq_some_iff.mp H
   obtain ⟨t228, A40, H⟩ := H
   replace H : (if 14 < (l0.length : Int) then (if 15 < (l0.length : Int) then (if t228 = (Go.bits .or .i64 (wrap64 ((wrap64 (rd l0 14)) * 256)) (wrap64 (rd l0 15))) then (if 0 < (l0.length : Int) then (if 1 < (l0.length : Int) then (if 2 < (l0.length : Int) then (if 3 < (l0.length : Int) then (if 4 < (l0.length : Int) then (if 5 ≤ (l0.length : Int) then ((impl_number24.f (l0.drop 5)).bind fun t237 => (if 8 ≤ (l0.length : Int) then ((impl_number24.f (l0.drop 8)).bind fun t239 => (if 11 < (l0.length : Int) then (if 12 < (l0.length : Int) then (if 13 < (l0.length : Int) then (if (rd l0 13) = 0 then ((impl_ReportOk.f (wrap64 (rd l0 0)) (Go.bits .or .i64 (Go.bits .or .i64 (Go.bits .or .i64 (wrap64 ((wrap64 (rd l0 1)) * 16777216)) (wrap64 ((wrap64 (rd l0 2)) * 65536))) (wrap64 ((wrap64 (rd l0 3)) * 256))) (wrap64 (rd l0 4))) t237 t239 (wrap64 (rd l0 11)) (wrap64 (rd l0 12))).bind fun t244 => (if t244 = true then (some (wrap64 (rd l0 0), Go.bits .or .i64 (Go.bits .or .i64 (Go.bits .or .i64 (wrap64 ((wrap64 (rd l0 1)) * 16777216)) (wrap64 ((wrap64 (rd l0 2)) * 65536))) (wrap64 ((wrap64 (rd l0 3)) * 256))) (wrap64 (rd l0 4)), t237, t239, wrap64 (rd l0 11), wrap64 (rd l0 12), 0)) else (some (0, 0, 0, 0, 0, 0, 3)))) else (some (0, 0, 0, 0, 0, 0, 3))) else (none)) else (none)) else (none))) else (none))) else (none)) else (none)) else (none)) else (none)) else (none)) else (none)) else (some (0, 0, 0, 0, 0, 0, 2))) else (none)) else (none)) = some (r1, r2, r3, r4, r5, r6, r7) := H
   have A4 := Aside0.mk A40
   clear A40
   by_cases c5 : 14 < (l0.length : Int)
   ·rw [if_pos c5] at H
    have c5b0 : decide (14 < (l0.length : Int)) = true := decide_eq_true c5
    have c5b1 : decide (14 < l0.length) = true := decide_eq_true (by omega)
    clear c5
    by_cases c6 : 15 < (l0.length : Int)
    ·rw [if_pos c6] at H
     have c6b0 : decide (15 < (l0.length : Int)) = true := decide_eq_true c6
     have c6b1 : decide (15 < l0.length) = true := decide_eq_true (by omega)
     clear c6
     by_cases c7 : t228 = (Go.bits .or .i64 (wrap64 ((wrap64 (rd l0 14)) * 256)) (wrap64 (rd l0 15)))
     ·rw [if_pos c7] at H
      have c7b0 : (t228 == (Go.bits .or .i64 (wrap64 ((wrap64 (rd l0 14)) * 256)) (wrap64 (rd l0 15)))) = true := beq_iff_eq.mpr c7
      have c7b1 : (t228 != (Go.bits .or .i64 (wrap64 ((wrap64 (rd l0 14)) * 256)) (wrap64 (rd l0 15)))) = false := bne_eq_false_iff_eq.mpr c7
      clear c7
      by_cases c8 : 0 < (l0.length : Int)
      ·rw [if_pos c8] at H
       have c8b0 : decide (0 < (l0.length : Int)) = true := decide_eq_true c8
       have c8b1 : decide (0 < l0.length) = true := decide_eq_true (by omega)
       clear c8
       by_cases c9 : 1 < (l0.length : Int)
       ·rw [if_pos c9] at H
        have c9b0 : decide (1 < (l0.length : Int)) = true := decide_eq_true c9
        have c9b1 : decide (1 < l0.length) = true := decide_eq_true (by omega)
        clear c9
        by_cases c10 : 2 < (l0.length : Int)
        ·rw [if_pos c10] at H
         have c10b0 : decide (2 < (l0.length : Int)) = true := decide_eq_true c10
         have c10b1 : decide (2 < l0.length) = true := decide_eq_true (by omega)
         clear c10
         by_cases c11 : 3 < (l0.length : Int)
         ·rw [if_pos c11] at H
          have c11b0 : decide (3 < (l0.length : Int)) = true := decide_eq_true c11
          have c11b1 : decide (3 < l0.length) = true := decide_eq_true (by omega)
          clear c11
          by_cases c12 : 4 < (l0.length : Int)
          ·rw [if_pos c12] at H
           have c12b0 : decide (4 < (l0.length : Int)) = true := decide_eq_true c12
           have c12b1 : decide (4 < l0.length) = true := decide_eq_true (by omega)
           clear c12
           by_cases c13 : 5 ≤ (l0.length : Int)
           ·rw [if_pos c13] at H
            have c13b0 := eq_true c13
            have c13b1 : decide (5 ≤ (l0.length : Int)) = true := decide_eq_true c13
            clear c13
            replace H := Option.bind_eq_some_iff.mp H
            obtain ⟨t237, A140, H⟩ := H
            replace H : (if 8 ≤ (l0.length : Int) then ((impl_number24.f (l0.drop 8)).bind fun t239 => (if 11 < (l0.length : Int) then (if 12 < (l0.length : Int) then (if 13 < (l0.length : Int) then (if (rd l0 13) = 0 then ((impl_ReportOk.f (wrap64 (rd l0 0)) (Go.bits .or .i64 (Go.bits .or .i64 (Go.bits .or .i64 (wrap64 ((wrap64 (rd l0 1)) * 16777216)) (wrap64 ((wrap64 (rd l0 2)) * 65536))) (wrap64 ((wrap64 (rd l0 3)) * 256))) (wrap64 (rd l0 4))) t237 t239 (wrap64 (rd l0 11)) (wrap64 (rd l0 12))).bind fun t244 => (if t244 = true then (some (wrap64 (rd l0 0), Go.bits .or .i64 (Go.bits .or .i64 (Go.bits .or .i64 (wrap64 ((wrap64 (rd l0 1)) * 16777216)) (wrap64 ((wrap64 (rd l0 2)) * 65536))) (wrap64 ((wrap64 (rd l0 3)) * 256))) (wrap64 (rd l0 4)), t237, t239, wrap64 (rd l0 11), wrap64 (rd l0 12), 0)) else (some (0, 0, 0, 0, 0, 0, 3)))) else (some (0, 0, 0, 0, 0, 0, 3))) else (none)) else (none)) else (none))) else (none)) = some (r1, r2, r3, r4, r5, r6, r7) := H
            have A14 := Aside0.mk A140
            clear A140
            by_cases c15 : 8 ≤ (l0.length : Int)
            ·rw [if_pos c15] at H
             have c15b0 := eq_true c15
             have c15b1 : decide (8 ≤ (l0.length : Int)) = true := decide_eq_true c15
             clear c15
             replace H := Option.bind_eq_some_iff.mp H
             obtain ⟨t239, A160, H⟩ := H
             replace H : (if 11 < (l0.length : Int) then (if 12 < (l0.length : Int) then (if 13 < (l0.length : Int) then (if (rd l0 13) = 0 then ((impl_ReportOk.f (wrap64 (rd l0 0)) (Go.bits .or .i64 (Go.bits .or .i64 (Go.bits .or .i64 (wrap64 ((wrap64 (rd l0 1)) * 16777216)) (wrap64 ((wrap64 (rd l0 2)) * 65536))) (wrap64 ((wrap64 (rd l0 3)) * 256))) (wrap64 (rd l0 4))) t237 t239 (wrap64 (rd l0 11)) (wrap64 (rd l0 12))).bind fun t244 => (if t244 = true then (some (wrap64 (rd l0 0), Go.bits .or .i64 (Go.bits .or .i64 (Go.bits .or .i64 (wrap64 ((wrap64 (rd l0 1)) * 16777216)) (wrap64 ((wrap64 (rd l0 2)) * 65536))) (wrap64 ((wrap64 (rd l0 3)) * 256))) (wrap64 (rd l0 4)), t237, t239, wrap64 (rd l0 11), wrap64 (rd l0 12), 0)) else (some (0, 0, 0, 0, 0, 0, 3)))) else (some (0, 0, 0, 0, 0, 0, 3))) else (none)) else (none)) else (none)) = some (r1, r2, r3, r4, r5, r6, r7) := H
             have A16 := Aside0.mk A160
             clear A160
             by_cases c17 : 11 < (l0.length : Int)
             ·rw [if_pos c17] at H
              have c17b0 : decide (11 < (l0.length : Int)) = true := decide_eq_true c17
              have c17b1 : decide (11 < l0.length) = true := decide_eq_true (by omega)
              clear c17
              by_cases c18 : 12 < (l0.length : Int)
              ·rw [if_pos c18] at H
               have c18b0 : decide (12 < (l0.length : Int)) = true := decide_eq_true c18
               have c18b1 : decide (12 < l0.length) = true := decide_eq_true (by omega)
               clear c18
               by_cases c19 : 13 < (l0.length : Int)
               ·rw [if_pos c19] at H
                have c19b0 : decide (13 < (l0.length : Int)) = true := decide_eq_true c19
                have c19b1 : decide (13 < l0.length) = true := decide_eq_true (by omega)
                clear c19
                by_cases c20 : (rd l0 13) = 0
                ·rw [if_pos c20] at H
                 have c20b0 : ((rd l0 13) == 0) = true := beq_iff_eq.mpr c20
                 have c20b1 : ((rd l0 13) != 0) = false := bne_eq_false_iff_eq.mpr c20
                 clear c20
                 replace H := Option.bind_eq_some_iff.mp H
                 obtain ⟨t244, A210, H⟩ := H
                 replace H : (if t244 = true then (some (wrap64 (rd l0 0), Go.bits .or .i64 (Go.bits .or .i64 (Go.bits .or .i64 (wrap64 ((wrap64 (rd l0 1)) * 16777216)) (wrap64 ((wrap64 (rd l0 2)) * 65536))) (wrap64 ((wrap64 (rd l0 3)) * 256))) (wrap64 (rd l0 4)), t237, t239, wrap64 (rd l0 11), wrap64 (rd l0 12), 0)) else (some (0, 0, 0, 0, 0, 0, 3))) = some (r1, r2, r3, r4, r5, r6, r7) := H
                 have A21 := Aside0.mk A210
                 clear A210
                 by_cases c22 : t244 = true
                 ·subst c22
                  have H1 : (some (wrap64 (rd l0 0), Go.bits .or .i64 (Go.bits .or .i64 (Go.bits .or .i64 (wrap64 ((wrap64 (rd l0 1)) * 16777216)) (wrap64 ((wrap64 (rd l0 2)) * 65536))) (wrap64 ((wrap64 (rd l0 3)) * 256))) (wrap64 (rd l0 4)), t237, t239, wrap64 (rd l0 11), wrap64 (rd l0 12), 0)) = some (r1, r2, r3, r4, r5, r6, r7) := by rw [if_pos rfl] at H; exact H
                  clear H
                  have H := H1
                  clear H1
                  simp only [Option.some.injEq, Prod.mk.injEq] at H
                  obtain ⟨rfl, rfl, rfl, rfl, rfl, rfl, rfl⟩ := H
                  go_enter Try.func21, Try.ntmps21
                  try go_wp2_with (first | ((with_reducible refine gate_dst (N := 2) rfl ?_); refine box_event ?hg (N := 2) ?hd (cs := #[.int .i64 0, .int .i64 0, .int .i64 0, .int .i64 0, .int .i64 0, .int .i64 0]) (t := 35) ?hr ?_; (case hd => rfl); (case hg => rfl); (case hr => first | (go_simp; done) | (go_simp; rfl)); intro gb226 hg w23 hbox hb; have n0_ := Aside0.mk (below_step (bel_ HB.out) hb); have n1_ := Aside0.mk (hbox); have n2_ := Aside0.mk ((by rw [hg]; exact (below_size (bel_ HB.out)) : w.heap.size ≤ gb226)); have n3_ := Aside0.mk ((by rw [hg]; exact (below_size (bel_ HB.out)) : w.heap.size ≤ gb226)); clear HB; have HB := n0_; have BK226 := n1_; have GW226 := n2_; have GE226 := n3_; clear n0_ n1_ n2_ n3_; clear hb hbox hg))
                  have n0_ := Aside0.mk (blk_drew BK226.out)
                  have n1_ := Aside0.mk (below_drew1 HB.out)
                  clear BK226
                  clear HB
                  have BK226 := n0_
                  have HB := n1_
                  clear n0_ n1_
                  obtain ⟨i025, hi025, _, hsz25, _⟩ := info_parts info5
                  obtain ⟨hcut25, hA25, hC25⟩ := print_take_of (P := Try.prog) (Value.int .u8) 0 22 5 .i64 Try.underlying22 hi025 hsz25 A0 c0 l0 14 (by omega) (of_decide_eq_true (by first | (with_reducible assumption) | assumption)) HC0.out
                  have HR227 := Aside0.mk (Kd.C_of_reads (h1 := fun _ => rfl) (hA25 _ (Kd.reads_of_C HR0.out)))
                  have HC227 := Aside0.mk hC25
                  clear hA25 hC25 hi025 hsz25
                  have p229 : 0 ≤ (14 : Int) := (by omega)
                  have q229 : 14 < (l0.length : Int) := of_decide_eq_true (by first | (with_reducible assumption) | assumption)
                  obtain ⟨ad229, e229, hx229_0⟩ := Kd.at_int HR0.out 14 p229 q229
                  have hw229_0 := hx229_0
                  (try rw [show ((14 : Int)).toNat = 14 from rfl] at hw229_0)
                  (try rw [show 14 * 1 = 14 from rfl] at hw229_0)
                  (try simp only [Nat.reduceMul, Nat.reduceEqDiff, Go.Addr.add, ↓reduceIte] at hw229_0)
                  cases e229
                  (try simp only [show (14 : Int).toNat = 14 from rfl, Nat.reduceMul, Nat.reduceEqDiff, Go.Addr.add, ↓reduceIte] at hx229_0)
                  have qi229 : (14 < l0.length) = True := eq_true (by omega)
                  (try rw [show ((14 : Int)).toNat = 14 from rfl] at hx229_0)
                  replace hx229_0 := (HB.out.cell (World.block_lt_of_cell? w _ hx229_0)).trans hx229_0
                  replace p229 := eq_true p229
                  replace q229 := eq_true q229
                  have p230 : 0 ≤ (15 : Int) := (by omega)
                  have q230 : 15 < (l0.length : Int) := of_decide_eq_true (by first | (with_reducible assumption) | assumption)
                  obtain ⟨ad230, e230, hx230_0⟩ := Kd.at_int HR0.out 15 p230 q230
                  have hw230_0 := hx230_0
                  (try rw [show ((15 : Int)).toNat = 15 from rfl] at hw230_0)
                  (try rw [show 15 * 1 = 15 from rfl] at hw230_0)
                  (try simp only [Nat.reduceMul, Nat.reduceEqDiff, Go.Addr.add, ↓reduceIte] at hw230_0)
                  obtain rfl : ad229 = ad230 := (by injection e230)
                  (try simp only [show (15 : Int).toNat = 15 from rfl, Nat.reduceMul, Nat.reduceEqDiff, Go.Addr.add, ↓reduceIte] at hx230_0)
                  have qi230 : (15 < l0.length) = True := eq_true (by omega)
                  (try rw [show ((15 : Int)).toNat = 15 from rfl] at hx230_0)
                  replace hx230_0 := (HB.out.cell (World.block_lt_of_cell? w _ hx230_0)).trans hx230_0
                  replace p230 := eq_true p230
                  replace q230 := eq_true q230
                  refine start_ (n := 14) (S := fun w' => w'.cell? ⟨ad229.block, ad229.off + 14, none⟩ = some (.int .u8 (rd l0 14)) ∧ w'.cell? ⟨ad229.block, ad229.off + 15, none⟩ = some (.int .u8 (rd l0 15))) (ds := []) (bs 14 0) (by kernel_rfl) rfl rfl ⟨((HB.out.cell (World.block_lt_of_cell? w _ hw229_0)).trans hw229_0), ((HB.out.cell (World.block_lt_of_cell? w _ hw230_0)).trans hw230_0)⟩ (fun hHeld => ?_); refine with_tabW impl_ReadReport.tab4 impl_ReadReport.bits4 (fun HT_ HW_ => ?_)
                  generalize w23.drew = w24 at BK226 HB HR227 hx229_0 hx230_0 hHeld ⊢
                  refine pu_ 0 11 HT_ (bs 14 1) rfl rfl ?_
                  refine pu_ 1 12 HT_ (bs 14 3) rfl rfl ?_
                  refine pu_ 3 14 HT_ (bs 14 11) rfl rfl ?_
                  refine pu_ 4 15 HT_ (bs 14 27) rfl rfl ?_
                  refine pu_ 8 19 HT_ (bs 14 283) rfl rfl ?_
                  refine pu_ 9 20 HT_ (bs 14 795) rfl rfl ?_
                  refine take_ (i := 5) (N := some 16) (v := ?_) (a' := ?_) (bs 14 827) rfl rfl (take_ofW HT_.out HW_.out (by kernel_rfl)) (fun _ _ _ h => h) (Or.inl ⟨by rfl, ?_⟩) hHeld ?_ ?_
                  rotate_left
                  ·rintro w' ⟨s0, s1⟩
                   go_simp
                   with_reducible rfl
                  rotate_left
                  ·simp only [Act.put, sA_, sZ_, sS_, i64_w, i32_w]
                   rfl
                  refine pu_ 6 17 HT_ (bs 14 891) rfl rfl ?_
                  refine pu_ 7 18 HT_ (bs 14 1019) rfl rfl ?_
                  refine take_ (i := 10) (N := some 21) (v := ?_) (a' := ?_) (bs 14 2043) rfl rfl (take_ofW HT_.out HW_.out (by kernel_rfl)) (fun _ _ _ h => h) (Or.inl ⟨by rfl, ?_⟩) hHeld ?_ ?_
                  rotate_left
                  ·rintro w' ⟨s0, s1⟩
                   go_simp
                   with_reducible rfl
                  rotate_left
                  ·simp only [Act.put, sA_, sZ_, sS_, i64_w, i32_w]
                   rfl
                  refine pu_ 11 22 HT_ (bs 14 4091) rfl rfl ?_
                  refine pu_ 12 23 HT_ (bs 14 8187) rfl rfl ?_
                  refine one_ (i := 2) (N := some 13) (bs 14 8191) rfl rfl (one_of HT_.out (by kernel_rfl)) (by decide) (fun K hK => ?_)
                  refine goes_ Try.func52 (by kernel_rfl) rfl #[.slice (some ad229) (l0.take 14).length c0] (by rfl) rfl rfl (by (try simp only [List.map_toArray, List.map_cons, List.map_nil]); first | done | (rw [show (l0.take 14).length = 14 from (by rw [List.length_take]; have h_ : (14 : Int) ≤ (l0.length : Int) := of_decide_eq_true (by first | (with_reducible assumption) | assumption); omega)] <;> rfl) | rfl | (simp only [List.length_drop, List.length_take]; rfl)) ?_
                  with_reducible refine (impl_frameCheck.calls k _ _ (l0.take 14) t228 _ ?side1 ?side2 A4.out).mono ?_
                  (case side1 => repeat (first | exact (Kd.C_below HR227.out HB.out) | (with_reducible refine Kd.C_alloc ?_ _) | (with_reducible refine Kd.C_drewN ?_ _) | (with_reducible refine Kd.C_drew ?_)))
                  (case side2 => exact HC227.out)
                  rintro e w' ⟨rfl, ⟨nd, rfl⟩⟩
                  refine ⟨_, rfl, ?_⟩
                  refine hK.out _ _ ⟨((HB.out.cell (World.block_lt_of_cell? w _ hw229_0)).trans hw229_0), ((HB.out.cell (World.block_lt_of_cell? w _ hw230_0)).trans hw230_0)⟩ (fun hHeld => ?_)
                  clear hK K
                  refine norm_ (a' := ?_) ?_ ?_
                  rotate_left
                  ·show Act.put _ (some 13) _ = _
                   simp only [Act.put, sA_, sZ_, sS_, i64_w, i32_w]
                   rfl
                  refine pu_ 13 24 HT_ (bs 14 16383) rfl rfl ?_
                  refine done_ (done_of HT_.out (by kernel_rfl)) ?_
                  try go_wp2
                  (try ((first | generalize hq_ : World.drewN w24 _ = w24 | (rw [drewN_self w24]; generalize hq_ : World.drewN w24 _ = w24)); have n0_ : Aside0 (w24.heap[gb226]? = some (.cells #[.int .i64 0, .int .i64 0, .int .i64 0, .int .i64 0, .int .i64 0, .int .i64 0] 35 (0, 0))) := ⟨by rw [← hq_]; exact (fb_ BK226.out)⟩; have n1_ : Aside0 (Below w.heap.size w w24) := ⟨by rw [← hq_]; exact (bel_ HB.out)⟩; clear BK226 HB hq_; have BK226 := n0_; have HB := n1_; clear n0_ n1_))
                  have n0_ := Aside0.mk (blk_drew BK226.out)
                  have n1_ := Aside0.mk (below_drew1 HB.out)
                  clear BK226
                  clear HB
                  have BK226 := n0_
                  have HB := n1_
                  clear n0_ n1_
                  have p231 : 0 ≤ (0 : Int) := (by omega)
                  have q231 : 0 < (l0.length : Int) := of_decide_eq_true (by first | (with_reducible assumption) | assumption)
                  obtain ⟨ad231, e231, hx231_0⟩ := Kd.at_int HR0.out 0 p231 q231
                  have hw231_0 := hx231_0
                  (try rw [show ((0 : Int)).toNat = 0 from rfl] at hw231_0)
                  (try rw [show 0 * 1 = 0 from rfl] at hw231_0)
                  (try rw [Addr.add_zero'] at hw231_0)
                  obtain rfl : ad229 = ad231 := (by injection e231)
                  have qi231 : (0 < l0.length) = True := eq_true (by omega)
                  (try rw [show ((0 : Int)).toNat = 0 from rfl] at hx231_0)
                  (try rw [Addr.add_zero'] at hx231_0)
                  replace hx231_0 := (HB.out.cell (World.block_lt_of_cell? w _ hx231_0)).trans hx231_0
                  replace p231 := eq_true p231
                  replace q231 := eq_true q231
                  have p232 : 0 ≤ (1 : Int) := (by omega)
                  have q232 : 1 < (l0.length : Int) := of_decide_eq_true (by first | (with_reducible assumption) | assumption)
                  obtain ⟨ad232, e232, hx232_0⟩ := Kd.at_int HR0.out 1 p232 q232
                  have hw232_0 := hx232_0
                  (try rw [show ((1 : Int)).toNat = 1 from rfl] at hw232_0)
                  (try rw [show 1 * 1 = 1 from rfl] at hw232_0)
                  (try simp only [Nat.reduceMul, Nat.reduceEqDiff, Go.Addr.add, ↓reduceIte] at hw232_0)
                  obtain rfl : ad229 = ad232 := (by injection e232)
                  (try simp only [show (1 : Int).toNat = 1 from rfl, Nat.reduceMul, Nat.reduceEqDiff, Go.Addr.add, ↓reduceIte] at hx232_0)
                  have qi232 : (1 < l0.length) = True := eq_true (by omega)
                  (try rw [show ((1 : Int)).toNat = 1 from rfl] at hx232_0)
                  replace hx232_0 := (HB.out.cell (World.block_lt_of_cell? w _ hx232_0)).trans hx232_0
                  replace p232 := eq_true p232
                  replace q232 := eq_true q232
                  have p233 : 0 ≤ (2 : Int) := (by omega)
                  have q233 : 2 < (l0.length : Int) := of_decide_eq_true (by first | (with_reducible assumption) | assumption)
                  obtain ⟨ad233, e233, hx233_0⟩ := Kd.at_int HR0.out 2 p233 q233
                  have hw233_0 := hx233_0
                  (try rw [show ((2 : Int)).toNat = 2 from rfl] at hw233_0)
                  (try rw [show 2 * 1 = 2 from rfl] at hw233_0)
                  (try simp only [Nat.reduceMul, Nat.reduceEqDiff, Go.Addr.add, ↓reduceIte] at hw233_0)
                  obtain rfl : ad229 = ad233 := (by injection e233)
                  (try simp only [show (2 : Int).toNat = 2 from rfl, Nat.reduceMul, Nat.reduceEqDiff, Go.Addr.add, ↓reduceIte] at hx233_0)
                  have qi233 : (2 < l0.length) = True := eq_true (by omega)
                  (try rw [show ((2 : Int)).toNat = 2 from rfl] at hx233_0)
                  replace hx233_0 := (HB.out.cell (World.block_lt_of_cell? w _ hx233_0)).trans hx233_0
                  replace p233 := eq_true p233
                  replace q233 := eq_true q233
                  have p234 : 0 ≤ (3 : Int) := (by omega)
                  have q234 : 3 < (l0.length : Int) := of_decide_eq_true (by first | (with_reducible assumption) | assumption)
                  obtain ⟨ad234, e234, hx234_0⟩ := Kd.at_int HR0.out 3 p234 q234
                  have hw234_0 := hx234_0
                  (try rw [show ((3 : Int)).toNat = 3 from rfl] at hw234_0)
                  (try rw [show 3 * 1 = 3 from rfl] at hw234_0)
                  (try simp only [Nat.reduceMul, Nat.reduceEqDiff, Go.Addr.add, ↓reduceIte] at hw234_0)
                  obtain rfl : ad229 = ad234 := (by injection e234)
                  (try simp only [show (3 : Int).toNat = 3 from rfl, Nat.reduceMul, Nat.reduceEqDiff, Go.Addr.add, ↓reduceIte] at hx234_0)
                  have qi234 : (3 < l0.length) = True := eq_true (by omega)
                  (try rw [show ((3 : Int)).toNat = 3 from rfl] at hx234_0)
                  replace hx234_0 := (HB.out.cell (World.block_lt_of_cell? w _ hx234_0)).trans hx234_0
                  replace p234 := eq_true p234
                  replace q234 := eq_true q234
                  have p235 : 0 ≤ (4 : Int) := (by omega)
                  have q235 : 4 < (l0.length : Int) := of_decide_eq_true (by first | (with_reducible assumption) | assumption)
                  obtain ⟨ad235, e235, hx235_0⟩ := Kd.at_int HR0.out 4 p235 q235
                  have hw235_0 := hx235_0
                  (try rw [show ((4 : Int)).toNat = 4 from rfl] at hw235_0)
                  (try rw [show 4 * 1 = 4 from rfl] at hw235_0)
                  (try simp only [Nat.reduceMul, Nat.reduceEqDiff, Go.Addr.add, ↓reduceIte] at hw235_0)
                  obtain rfl : ad229 = ad235 := (by injection e235)
                  (try simp only [show (4 : Int).toNat = 4 from rfl, Nat.reduceMul, Nat.reduceEqDiff, Go.Addr.add, ↓reduceIte] at hx235_0)
                  have qi235 : (4 < l0.length) = True := eq_true (by omega)
                  (try rw [show ((4 : Int)).toNat = 4 from rfl] at hx235_0)
                  replace hx235_0 := (HB.out.cell (World.block_lt_of_cell? w _ hx235_0)).trans hx235_0
                  replace p235 := eq_true p235
                  replace q235 := eq_true q235
                  obtain ⟨i027, hi027, _, hsz27, _⟩ := info_parts info5
                  obtain ⟨A27, hcut27, hA27, hC27⟩ := print_drop_of (P := Try.prog) (Value.int .u8) 0 22 5 .i64 Try.underlying22 hi027 hsz27 (some ad229) c0 l0 5 (by omega) (of_decide_eq_true (by first | (with_reducible assumption) | assumption)) HC0.out
                  have HR236 := Aside0.mk (Kd.C_of_reads (h1 := fun _ => rfl) (hA27 _ (Kd.reads_of_C HR0.out)))
                  have HC236 := Aside0.mk hC27
                  clear hA27 hC27 hi027 hsz27
                  obtain ⟨i028, hi028, _, hsz28, _⟩ := info_parts info5
                  obtain ⟨A28, hcut28, hA28, hC28⟩ := print_drop_of (P := Try.prog) (Value.int .u8) 0 22 5 .i64 Try.underlying22 hi028 hsz28 (some ad229) c0 l0 8 (by omega) (of_decide_eq_true (by first | (with_reducible assumption) | assumption)) HC0.out
                  have HR238 := Aside0.mk (Kd.C_of_reads (h1 := fun _ => rfl) (hA28 _ (Kd.reads_of_C HR0.out)))
                  have HC238 := Aside0.mk hC28
                  clear hA28 hC28 hi028 hsz28
                  have p240 : 0 ≤ (11 : Int) := (by omega)
                  have q240 : 11 < (l0.length : Int) := of_decide_eq_true (by first | (with_reducible assumption) | assumption)
                  obtain ⟨ad240, e240, hx240_0⟩ := Kd.at_int HR0.out 11 p240 q240
                  have hw240_0 := hx240_0
                  (try rw [show ((11 : Int)).toNat = 11 from rfl] at hw240_0)
                  (try rw [show 11 * 1 = 11 from rfl] at hw240_0)
                  (try simp only [Nat.reduceMul, Nat.reduceEqDiff, Go.Addr.add, ↓reduceIte] at hw240_0)
                  obtain rfl : ad229 = ad240 := (by injection e240)
                  (try simp only [show (11 : Int).toNat = 11 from rfl, Nat.reduceMul, Nat.reduceEqDiff, Go.Addr.add, ↓reduceIte] at hx240_0)
                  have qi240 : (11 < l0.length) = True := eq_true (by omega)
                  (try rw [show ((11 : Int)).toNat = 11 from rfl] at hx240_0)
                  replace hx240_0 := (HB.out.cell (World.block_lt_of_cell? w _ hx240_0)).trans hx240_0
                  replace p240 := eq_true p240
                  replace q240 := eq_true q240
                  have p241 : 0 ≤ (12 : Int) := (by omega)
                  have q241 : 12 < (l0.length : Int) := of_decide_eq_true (by first | (with_reducible assumption) | assumption)
                  obtain ⟨ad241, e241, hx241_0⟩ := Kd.at_int HR0.out 12 p241 q241
                  have hw241_0 := hx241_0
                  (try rw [show ((12 : Int)).toNat = 12 from rfl] at hw241_0)
                  (try rw [show 12 * 1 = 12 from rfl] at hw241_0)
                  (try simp only [Nat.reduceMul, Nat.reduceEqDiff, Go.Addr.add, ↓reduceIte] at hw241_0)
                  obtain rfl : ad229 = ad241 := (by injection e241)
                  (try simp only [show (12 : Int).toNat = 12 from rfl, Nat.reduceMul, Nat.reduceEqDiff, Go.Addr.add, ↓reduceIte] at hx241_0)
                  have qi241 : (12 < l0.length) = True := eq_true (by omega)
                  (try rw [show ((12 : Int)).toNat = 12 from rfl] at hx241_0)
                  replace hx241_0 := (HB.out.cell (World.block_lt_of_cell? w _ hx241_0)).trans hx241_0
                  replace p241 := eq_true p241
                  replace q241 := eq_true q241
                  refine start_ (n := 43) (S := fun w' => w'.cell? ad229 = some (.int .u8 (rd l0 0)) ∧ w'.cell? ⟨ad229.block, ad229.off + 1, none⟩ = some (.int .u8 (rd l0 1)) ∧ w'.cell? ⟨ad229.block, ad229.off + 2, none⟩ = some (.int .u8 (rd l0 2)) ∧ w'.cell? ⟨ad229.block, ad229.off + 3, none⟩ = some (.int .u8 (rd l0 3)) ∧ w'.cell? ⟨ad229.block, ad229.off + 4, none⟩ = some (.int .u8 (rd l0 4)) ∧ w'.cell? ⟨ad229.block, ad229.off + 11, none⟩ = some (.int .u8 (rd l0 11)) ∧ w'.cell? ⟨ad229.block, ad229.off + 12, none⟩ = some (.int .u8 (rd l0 12))) (ds := []) (bs 43 0) (by kernel_rfl) rfl rfl ⟨((HB.out.cell (World.block_lt_of_cell? w _ hw231_0)).trans hw231_0), ((HB.out.cell (World.block_lt_of_cell? w _ hw232_0)).trans hw232_0), ((HB.out.cell (World.block_lt_of_cell? w _ hw233_0)).trans hw233_0), ((HB.out.cell (World.block_lt_of_cell? w _ hw234_0)).trans hw234_0), ((HB.out.cell (World.block_lt_of_cell? w _ hw235_0)).trans hw235_0), ((HB.out.cell (World.block_lt_of_cell? w _ hw240_0)).trans hw240_0), ((HB.out.cell (World.block_lt_of_cell? w _ hw241_0)).trans hw241_0)⟩ (fun hHeld => ?_); refine with_tabW impl_ReadReport.tab6 impl_ReadReport.bits6 (fun HT_ HW_ => ?_)
                  generalize w24.drew = w26 at BK226 HB HR236 HR238 hx231_0 hx232_0 hx233_0 hx234_0 hx235_0 hx240_0 hx241_0 hHeld ⊢
                  refine pu_ 0 26 HT_ (bs 43 1) rfl rfl ?_
                  refine pu_ 1 27 HT_ (bs 43 3) rfl rfl ?_
                  refine pu_ 4 30 HT_ (bs 43 19) rfl rfl ?_
                  refine pu_ 5 31 HT_ (bs 43 51) rfl rfl ?_
                  refine pu_ 9 35 HT_ (bs 43 563) rfl rfl ?_
                  refine pu_ 10 36 HT_ (bs 43 1587) rfl rfl ?_
                  refine pu_ 15 41 HT_ (bs 43 34355) rfl rfl ?_
                  refine pu_ 16 42 HT_ (bs 43 99891) rfl rfl ?_
                  refine pu_ 21 47 HT_ (bs 43 2197043) rfl rfl ?_
                  refine pu_ 22 48 HT_ (bs 43 6391347) rfl rfl ?_
                  refine pu_ 26 52 HT_ (bs 43 73500211) rfl rfl ?_
                  refine pu_ 27 53 HT_ (bs 43 207717939) rfl rfl ?_
                  refine pu_ 29 55 HT_ (bs 43 744588851) rfl rfl ?_
                  refine pu_ 30 56 HT_ (bs 43 1818330675) rfl rfl ?_
                  refine pu_ 32 58 HT_ (bs 43 6113297971) rfl rfl ?_
                  refine pu_ 33 59 HT_ (bs 43 14703232563) rfl rfl ?_
                  refine pu_ 36 62 HT_ (bs 43 83422709299) rfl rfl ?_
                  refine pu_ 37 63 HT_ (bs 43 220861662771) rfl rfl ?_
                  refine take_ (i := 2) (N := some 28) (v := ?_) (a' := ?_) (bs 43 220861662775) rfl rfl (take_ofW HT_.out HW_.out (by kernel_rfl)) (fun _ _ _ h => h) (Or.inl ⟨by rfl, ?_⟩) hHeld ?_ ?_
                  rotate_left
                  ·rintro w' ⟨s0, s1, s2, s3, s4, s5, s6⟩
                   go_simp
                   with_reducible rfl
                  rotate_left
                  ·simp only [Act.put, sA_, sZ_, sS_, i64_w, i32_w]
                   rfl
                  refine pu_ 3 29 HT_ (bs 43 220861662783) rfl rfl ?_
                  refine take_ (i := 6) (N := some 32) (v := ?_) (a' := ?_) (bs 43 220861662847) rfl rfl (take_ofW HT_.out HW_.out (by kernel_rfl)) (fun _ _ _ h => h) (Or.inl ⟨by rfl, ?_⟩) hHeld ?_ ?_
                  rotate_left
                  ·rintro w' ⟨s0, s1, s2, s3, s4, s5, s6⟩
                   go_simp
                   with_reducible rfl
                  rotate_left
                  ·simp only [Act.put, sA_, sZ_, sS_, i64_w, i32_w]
                   rfl
                  refine pu_ 7 33 HT_ (bs 43 220861662975) rfl rfl ?_
                  refine pu_ 8 34 HT_ (bs 43 220861663231) rfl rfl ?_
                  refine take_ (i := 11) (N := some 37) (v := ?_) (a' := ?_) (bs 43 220861665279) rfl rfl (take_ofW HT_.out HW_.out (by kernel_rfl)) (fun _ _ _ h => h) (Or.inl ⟨by rfl, ?_⟩) hHeld ?_ ?_
                  rotate_left
                  ·rintro w' ⟨s0, s1, s2, s3, s4, s5, s6⟩
                   go_simp
                   with_reducible rfl
                  rotate_left
                  ·simp only [Act.put, sA_, sZ_, sS_, i64_w, i32_w]
                   rfl
                  refine pu_ 12 38 HT_ (bs 43 220861669375) rfl rfl ?_
                  refine pu_ 13 39 HT_ (bs 43 220861677567) rfl rfl ?_
                  refine pu_ 14 40 HT_ (bs 43 220861693951) rfl rfl ?_
                  refine take_ (i := 17) (N := some 43) (v := ?_) (a' := ?_) (bs 43 220861825023) rfl rfl (take_ofW HT_.out HW_.out (by kernel_rfl)) (fun _ _ _ h => h) (Or.inl ⟨by rfl, ?_⟩) hHeld ?_ ?_
                  rotate_left
                  ·rintro w' ⟨s0, s1, s2, s3, s4, s5, s6⟩
                   go_simp
                   with_reducible rfl
                  rotate_left
                  ·simp only [Act.put, sA_, sZ_, sS_, i64_w, i32_w]
                   rfl
                  refine pu_ 18 44 HT_ (bs 43 220862087167) rfl rfl ?_
                  refine pu_ 19 45 HT_ (bs 43 220862611455) rfl rfl ?_
                  refine pu_ 20 46 HT_ (bs 43 220863660031) rfl rfl ?_
                  refine take_ (i := 23) (N := some 49) (v := ?_) (a' := ?_) (bs 43 220872048639) rfl rfl (take_ofW HT_.out HW_.out (by kernel_rfl)) (fun _ _ _ h => h) (Or.inl ⟨by rfl, ?_⟩) hHeld ?_ ?_
                  rotate_left
                  ·rintro w' ⟨s0, s1, s2, s3, s4, s5, s6⟩
                   go_simp
                   with_reducible rfl
                  rotate_left
                  ·simp only [Act.put, sA_, sZ_, sS_, i64_w, i32_w]
                   rfl
                  refine pu_ 24 50 HT_ (bs 43 220888825855) rfl rfl ?_
                  refine pu_ 25 51 HT_ (bs 43 220922380287) rfl rfl ?_
                  refine take_ (i := 34) (N := some 60) (v := ?_) (a' := ?_) (bs 43 238102249471) rfl rfl (take_ofW HT_.out HW_.out (by kernel_rfl)) (fun _ _ _ h => h) (Or.inl ⟨by rfl, ?_⟩) hHeld ?_ ?_
                  rotate_left
                  ·rintro w' ⟨s0, s1, s2, s3, s4, s5, s6⟩
                   go_simp
                   with_reducible rfl
                  rotate_left
                  ·simp only [Act.put, sA_, sZ_, sS_, i64_w, i32_w]
                   rfl
                  refine pu_ 35 61 HT_ (bs 43 272461987839) rfl rfl ?_
                  refine take_ (i := 38) (N := some 64) (v := ?_) (a' := ?_) (bs 43 547339894783) rfl rfl (take_ofW HT_.out HW_.out (by kernel_rfl)) (fun _ _ _ h => h) (Or.inl ⟨by rfl, ?_⟩) hHeld ?_ ?_
                  rotate_left
                  ·rintro w' ⟨s0, s1, s2, s3, s4, s5, s6⟩
                   go_simp
                   with_reducible rfl
                  rotate_left
                  ·simp only [Act.put, sA_, sZ_, sS_, i64_w, i32_w]
                   rfl
                  refine pu_ 39 65 HT_ (bs 43 1097095708671) rfl rfl ?_
                  refine join_ (σ := Nat) 1 (bs 43 4398046511103) (fun s_ => [(54, .int .i64 t237), (57, .int .i64 t239), (5, .pointer (some ⟨s_, 0, none⟩)), (66, .agg #[.int .i64 (wrap64 (rd l0 0)), .int .i64 (Go.bits .or .i64 (Go.bits .or .i64 (Go.bits .or .i64 (wrap64 ((wrap64 (rd l0 1)) * 16777216)) (wrap64 ((wrap64 (rd l0 2)) * 65536))) (wrap64 ((wrap64 (rd l0 3)) * 256))) (wrap64 (rd l0 4))), .int .i64 t237, .int .i64 t239, .int .i64 (wrap64 (rd l0 11)), .int .i64 (wrap64 (rd l0 12))])]) (fun s_ w' => (w'.cell? ad229 = some (.int .u8 (rd l0 0)) ∧ w'.cell? ⟨ad229.block, ad229.off + 1, none⟩ = some (.int .u8 (rd l0 1)) ∧ w'.cell? ⟨ad229.block, ad229.off + 2, none⟩ = some (.int .u8 (rd l0 2)) ∧ w'.cell? ⟨ad229.block, ad229.off + 3, none⟩ = some (.int .u8 (rd l0 3)) ∧ w'.cell? ⟨ad229.block, ad229.off + 4, none⟩ = some (.int .u8 (rd l0 4)) ∧ w'.cell? ⟨ad229.block, ad229.off + 11, none⟩ = some (.int .u8 (rd l0 11)) ∧ w'.cell? ⟨ad229.block, ad229.off + 12, none⟩ = some (.int .u8 (rd l0 12))) ∧ (w'.heap[gb226]? = some (.cells #[.int .i64 0, .int .i64 0, .int .i64 0, .int .i64 0, .int .i64 0, .int .i64 0] 35 (0, 0))) ∧ (w'.heap[s_]? = some (.cells #[.int .i64 0, .int .i64 0, .int .i64 0, .int .i64 0, .int .i64 0, .int .i64 0] 35 (0, 0))) ∧ (w.heap.size ≤ s_) ∧ (w.heap.size ≤ s_) ∧ (gb226 ≠ s_) ∧ (s_ ≠ gb226) ∧ (Below w.heap.size w w')) ?_ ?_
                  rotate_left
                  ·intro hCont
                   refine two_ (i := 28) (j := 41) (Ni := some 54) (Nj := some 5) (bs 43 1097364144127) (bs 43 3296118964223) rfl rfl rfl rfl (two_of HT_.out (by kernel_rfl)) (by decide) (by decide) (fun K hK => ?_) (fun K hK => ?_)
                   ·skip
                    refine goes_ Try.func56 (by kernel_rfl) rfl #[.slice A27 (l0.drop 5).length (c0 - 5)] (by rfl) rfl rfl (by (try simp only [List.map_toArray, List.map_cons, List.map_nil]); first | done | (rw [show (l0.drop 5).length = (l0.length - 5) from List.length_drop] <;> rfl) | rfl | (simp only [List.length_drop, List.length_take]; rfl)) ?_
                    with_reducible refine (impl_number24.calls _ _ (l0.drop 5) t237 _ ?side1 ?side2 A14.out).mono ?_
                    (case side1 => repeat (first | exact (Kd.C_below HR236.out HB.out) | (with_reducible refine Kd.C_alloc ?_ _) | (with_reducible refine Kd.C_drewN ?_ _) | (with_reducible refine Kd.C_drew ?_)))
                    (case side2 => exact HC236.out)
                    rintro e w' ⟨rfl, ⟨nd, rfl⟩⟩
                    refine ⟨_, rfl, ?_⟩
                    refine hK.out _ _ ⟨((HB.out.cell (World.block_lt_of_cell? w _ hw231_0)).trans hw231_0), ((HB.out.cell (World.block_lt_of_cell? w _ hw232_0)).trans hw232_0), ((HB.out.cell (World.block_lt_of_cell? w _ hw233_0)).trans hw233_0), ((HB.out.cell (World.block_lt_of_cell? w _ hw234_0)).trans hw234_0), ((HB.out.cell (World.block_lt_of_cell? w _ hw235_0)).trans hw235_0), ((HB.out.cell (World.block_lt_of_cell? w _ hw240_0)).trans hw240_0), ((HB.out.cell (World.block_lt_of_cell? w _ hw241_0)).trans hw241_0)⟩ (fun hHeld => ?_)
                    clear hK K
                    refine norm_ (a' := ?_) ?_ ?_
                    rotate_left
                    ·show Act.put _ (some 54) _ = _
                     simp only [Act.put, sA_, sZ_, sS_, i64_w, i32_w]
                     rfl
                    refine two_ (i := 31) (j := 41) (Ni := some 57) (Nj := some 5) (bs 43 1099511627775) (bs 43 3296387399679) rfl rfl rfl rfl (two_of HT_.out (by kernel_rfl)) (by decide) (by decide) (fun K hK => ?_) (fun K hK => ?_)
                    ·skip
                     refine goes_ Try.func56 (by kernel_rfl) rfl #[.slice A28 (l0.drop 8).length (c0 - 8)] (by rfl) rfl rfl (by (try simp only [List.map_toArray, List.map_cons, List.map_nil]); first | done | (rw [show (l0.drop 8).length = (l0.length - 8) from List.length_drop] <;> rfl) | rfl | (simp only [List.length_drop, List.length_take]; rfl)) ?_
                     with_reducible refine (impl_number24.calls _ _ (l0.drop 8) t239 _ ?side1 ?side2 A16.out).mono ?_
                     (case side1 => repeat (first | exact (Kd.C_below HR238.out (bel_ HB.out)) | (with_reducible refine Kd.C_alloc ?_ _) | (with_reducible refine Kd.C_drewN ?_ _) | (with_reducible refine Kd.C_drew ?_)))
                     (case side2 => exact HC238.out)
                     rintro e w' ⟨rfl, ⟨nd, rfl⟩⟩
                     refine ⟨_, rfl, ?_⟩
                     refine hK.out _ _ ⟨((HB.out.cell (World.block_lt_of_cell? w _ hw231_0)).trans hw231_0), ((HB.out.cell (World.block_lt_of_cell? w _ hw232_0)).trans hw232_0), ((HB.out.cell (World.block_lt_of_cell? w _ hw233_0)).trans hw233_0), ((HB.out.cell (World.block_lt_of_cell? w _ hw234_0)).trans hw234_0), ((HB.out.cell (World.block_lt_of_cell? w _ hw235_0)).trans hw235_0), ((HB.out.cell (World.block_lt_of_cell? w _ hw240_0)).trans hw240_0), ((HB.out.cell (World.block_lt_of_cell? w _ hw241_0)).trans hw241_0)⟩ (fun hHeld => ?_)
                     clear hK K
                     refine norm_ (a' := ?_) ?_ ?_
                     rotate_left
                     ·show Act.put _ (some 57) _ = _
                      simp only [Act.put, sA_, sZ_, sS_, i64_w, i32_w]
                      rfl
                     refine pu_ 40 66 HT_ (bs 43 2199023255551) rfl rfl ?_
                     refine one_ (i := 41) (N := some 5) (bs 43 4398046511103) rfl rfl (one_of HT_.out (by kernel_rfl)) (by decide) (fun K hK => ?_)
                     refine box_step ?hg (N := 5) ?hd (cs := #[.int .i64 0, .int .i64 0, .int .i64 0, .int .i64 0, .int .i64 0, .int .i64 0]) (t := 35) ?hr ?_; (case hd => rfl); (case hg => rfl); (case hr => first | (go_simp; done) | (go_simp; rfl))
                     intro gb242 hg w29 hbox hb
                     have n0_ := Aside0.mk (bb_ BK226.out hb)
                     have n1_ := Aside0.mk (below_step (bel_ HB.out) hb)
                     have n2_ := Aside0.mk (hbox)
                     have n3_ := Aside0.mk ((by rw [hg]; exact (below_size (bel_ HB.out)) : w.heap.size ≤ gb242))
                     have n4_ := Aside0.mk ((by rw [hg]; exact (below_size (bel_ HB.out)) : w.heap.size ≤ gb242))
                     have n5_ := Aside0.mk (nl_ BK226.out hg)
                     have n6_ := Aside0.mk (ng_ BK226.out hg)
                     clear BK226
                     clear HB
                     have BK226 := n0_
                     have HB := n1_
                     have BK242 := n2_
                     have GW242 := n3_
                     have GE242 := n4_
                     have NB226_242 := n5_
                     have NB242_226 := n6_
                     clear n0_ n1_ n2_ n3_ n4_ n5_ n6_
                     clear hb hbox hg
                     refine hK.out _ _ ⟨((HB.out.cell (World.block_lt_of_cell? w _ hw231_0)).trans hw231_0), ((HB.out.cell (World.block_lt_of_cell? w _ hw232_0)).trans hw232_0), ((HB.out.cell (World.block_lt_of_cell? w _ hw233_0)).trans hw233_0), ((HB.out.cell (World.block_lt_of_cell? w _ hw234_0)).trans hw234_0), ((HB.out.cell (World.block_lt_of_cell? w _ hw235_0)).trans hw235_0), ((HB.out.cell (World.block_lt_of_cell? w _ hw240_0)).trans hw240_0), ((HB.out.cell (World.block_lt_of_cell? w _ hw241_0)).trans hw241_0)⟩ (fun hHeld => ?_)
                     clear hK K
                     refine norm_ (a' := ?_) ?_ ?_
                     rotate_left
                     ·show Act.put _ (some 5) _ = _
                      simp only [Act.put, sA_, sZ_, sS_, i64_w, i32_w]
                      rfl
                     exact norm_ (by simp only [putAll, Act.put, sA_, sZ_, sS_]) (hCont (gb242) _ ⟨hHeld, (fb_ BK226.out), (fb_ BK242.out), GW242.out, GE242.out, NB226_242.out, NB242_226.out, (bel_ HB.out)⟩)
                    ·skip
                     refine box_step ?hg (N := 5) ?hd (cs := #[.int .i64 0, .int .i64 0, .int .i64 0, .int .i64 0, .int .i64 0, .int .i64 0]) (t := 35) ?hr ?_; (case hd => rfl); (case hg => rfl); (case hr => first | (go_simp; done) | (go_simp; rfl))
                     intro gb242 hg w29 hbox hb
                     have n0_ := Aside0.mk (bb_ BK226.out hb)
                     have n1_ := Aside0.mk (below_step (bel_ HB.out) hb)
                     have n2_ := Aside0.mk (hbox)
                     have n3_ := Aside0.mk ((by rw [hg]; exact (below_size (bel_ HB.out)) : w.heap.size ≤ gb242))
                     have n4_ := Aside0.mk ((by rw [hg]; exact (below_size (bel_ HB.out)) : w.heap.size ≤ gb242))
                     have n5_ := Aside0.mk (nl_ BK226.out hg)
                     have n6_ := Aside0.mk (ng_ BK226.out hg)
                     clear BK226
                     clear HB
                     have BK226 := n0_
                     have HB := n1_
                     have BK242 := n2_
                     have GW242 := n3_
                     have GE242 := n4_
                     have NB226_242 := n5_
                     have NB242_226 := n6_
                     clear n0_ n1_ n2_ n3_ n4_ n5_ n6_
                     clear hb hbox hg
                     refine hK.out _ _ ⟨((HB.out.cell (World.block_lt_of_cell? w _ hw231_0)).trans hw231_0), ((HB.out.cell (World.block_lt_of_cell? w _ hw232_0)).trans hw232_0), ((HB.out.cell (World.block_lt_of_cell? w _ hw233_0)).trans hw233_0), ((HB.out.cell (World.block_lt_of_cell? w _ hw234_0)).trans hw234_0), ((HB.out.cell (World.block_lt_of_cell? w _ hw235_0)).trans hw235_0), ((HB.out.cell (World.block_lt_of_cell? w _ hw240_0)).trans hw240_0), ((HB.out.cell (World.block_lt_of_cell? w _ hw241_0)).trans hw241_0)⟩ (fun hHeld => ?_)
                     clear hK K
                     refine norm_ (a' := ?_) ?_ ?_
                     rotate_left
                     ·show Act.put _ (some 5) _ = _
                      simp only [Act.put, sA_, sZ_, sS_, i64_w, i32_w]
                      rfl
                     refine one_ (i := 31) (N := some 57) (bs 43 3298534883327) rfl rfl (one_of HT_.out (by kernel_rfl)) (by decide) (fun K hK => ?_)
                     refine goes_ Try.func56 (by kernel_rfl) rfl #[.slice A28 (l0.drop 8).length (c0 - 8)] (by rfl) rfl rfl (by (try simp only [List.map_toArray, List.map_cons, List.map_nil]); first | done | (rw [show (l0.drop 8).length = (l0.length - 8) from List.length_drop] <;> rfl) | rfl | (simp only [List.length_drop, List.length_take]; rfl)) ?_
                     with_reducible refine (impl_number24.calls _ _ (l0.drop 8) t239 _ ?side1 ?side2 A16.out).mono ?_
                     (case side1 => repeat (first | exact (Kd.C_below HR238.out HB.out) | (with_reducible refine Kd.C_alloc ?_ _) | (with_reducible refine Kd.C_drewN ?_ _) | (with_reducible refine Kd.C_drew ?_)))
                     (case side2 => exact HC238.out)
                     rintro e w' ⟨rfl, ⟨nd, rfl⟩⟩
                     refine ⟨_, rfl, ?_⟩
                     refine hK.out _ _ ⟨((HB.out.cell (World.block_lt_of_cell? w _ hw231_0)).trans hw231_0), ((HB.out.cell (World.block_lt_of_cell? w _ hw232_0)).trans hw232_0), ((HB.out.cell (World.block_lt_of_cell? w _ hw233_0)).trans hw233_0), ((HB.out.cell (World.block_lt_of_cell? w _ hw234_0)).trans hw234_0), ((HB.out.cell (World.block_lt_of_cell? w _ hw235_0)).trans hw235_0), ((HB.out.cell (World.block_lt_of_cell? w _ hw240_0)).trans hw240_0), ((HB.out.cell (World.block_lt_of_cell? w _ hw241_0)).trans hw241_0)⟩ (fun hHeld => ?_)
                     clear hK K
                     refine norm_ (a' := ?_) ?_ ?_
                     rotate_left
                     ·show Act.put _ (some 57) _ = _
                      simp only [Act.put, sA_, sZ_, sS_, i64_w, i32_w]
                      rfl
                     refine pu_ 40 66 HT_ (bs 43 4398046511103) rfl rfl ?_
                     exact norm_ (by simp only [putAll, Act.put, sA_, sZ_, sS_]) (hCont (gb242) _ ⟨hHeld, (fb_ BK226.out), (fb_ BK242.out), GW242.out, GE242.out, NB226_242.out, NB242_226.out, (bel_ HB.out)⟩)
                   ·skip
                    refine box_step ?hg (N := 5) ?hd (cs := #[.int .i64 0, .int .i64 0, .int .i64 0, .int .i64 0, .int .i64 0, .int .i64 0]) (t := 35) ?hr ?_; (case hd => rfl); (case hg => rfl); (case hr => first | (go_simp; done) | (go_simp; rfl))
                    intro gb242 hg w29 hbox hb
                    have n0_ := Aside0.mk (bb_ BK226.out hb)
                    have n1_ := Aside0.mk (below_step (bel_ HB.out) hb)
                    have n2_ := Aside0.mk (hbox)
                    have n3_ := Aside0.mk ((by rw [hg]; exact (below_size (bel_ HB.out)) : w.heap.size ≤ gb242))
                    have n4_ := Aside0.mk ((by rw [hg]; exact (below_size (bel_ HB.out)) : w.heap.size ≤ gb242))
                    have n5_ := Aside0.mk (nl_ BK226.out hg)
                    have n6_ := Aside0.mk (ng_ BK226.out hg)
                    clear BK226
                    clear HB
                    have BK226 := n0_
                    have HB := n1_
                    have BK242 := n2_
                    have GW242 := n3_
                    have GE242 := n4_
                    have NB226_242 := n5_
                    have NB242_226 := n6_
                    clear n0_ n1_ n2_ n3_ n4_ n5_ n6_
                    clear hb hbox hg
                    refine hK.out _ _ ⟨((HB.out.cell (World.block_lt_of_cell? w _ hw231_0)).trans hw231_0), ((HB.out.cell (World.block_lt_of_cell? w _ hw232_0)).trans hw232_0), ((HB.out.cell (World.block_lt_of_cell? w _ hw233_0)).trans hw233_0), ((HB.out.cell (World.block_lt_of_cell? w _ hw234_0)).trans hw234_0), ((HB.out.cell (World.block_lt_of_cell? w _ hw235_0)).trans hw235_0), ((HB.out.cell (World.block_lt_of_cell? w _ hw240_0)).trans hw240_0), ((HB.out.cell (World.block_lt_of_cell? w _ hw241_0)).trans hw241_0)⟩ (fun hHeld => ?_)
                    clear hK K
                    refine norm_ (a' := ?_) ?_ ?_
                    rotate_left
                    ·show Act.put _ (some 5) _ = _
                     simp only [Act.put, sA_, sZ_, sS_, i64_w, i32_w]
                     rfl
                    refine one_ (i := 28) (N := some 54) (bs 43 3296387399679) rfl rfl (one_of HT_.out (by kernel_rfl)) (by decide) (fun K hK => ?_)
                    refine goes_ Try.func56 (by kernel_rfl) rfl #[.slice A27 (l0.drop 5).length (c0 - 5)] (by rfl) rfl rfl (by (try simp only [List.map_toArray, List.map_cons, List.map_nil]); first | done | (rw [show (l0.drop 5).length = (l0.length - 5) from List.length_drop] <;> rfl) | rfl | (simp only [List.length_drop, List.length_take]; rfl)) ?_
                    with_reducible refine (impl_number24.calls _ _ (l0.drop 5) t237 _ ?side1 ?side2 A14.out).mono ?_
                    (case side1 => repeat (first | exact (Kd.C_below HR236.out HB.out) | (with_reducible refine Kd.C_alloc ?_ _) | (with_reducible refine Kd.C_drewN ?_ _) | (with_reducible refine Kd.C_drew ?_)))
                    (case side2 => exact HC236.out)
                    rintro e w' ⟨rfl, ⟨nd, rfl⟩⟩
                    refine ⟨_, rfl, ?_⟩
                    refine hK.out _ _ ⟨((HB.out.cell (World.block_lt_of_cell? w _ hw231_0)).trans hw231_0), ((HB.out.cell (World.block_lt_of_cell? w _ hw232_0)).trans hw232_0), ((HB.out.cell (World.block_lt_of_cell? w _ hw233_0)).trans hw233_0), ((HB.out.cell (World.block_lt_of_cell? w _ hw234_0)).trans hw234_0), ((HB.out.cell (World.block_lt_of_cell? w _ hw235_0)).trans hw235_0), ((HB.out.cell (World.block_lt_of_cell? w _ hw240_0)).trans hw240_0), ((HB.out.cell (World.block_lt_of_cell? w _ hw241_0)).trans hw241_0)⟩ (fun hHeld => ?_)
                    clear hK K
                    refine norm_ (a' := ?_) ?_ ?_
                    rotate_left
                    ·show Act.put _ (some 54) _ = _
                     simp only [Act.put, sA_, sZ_, sS_, i64_w, i32_w]
                     rfl
                    refine one_ (i := 31) (N := some 57) (bs 43 3298534883327) rfl rfl (one_of HT_.out (by kernel_rfl)) (by decide) (fun K hK => ?_)
                    refine goes_ Try.func56 (by kernel_rfl) rfl #[.slice A28 (l0.drop 8).length (c0 - 8)] (by rfl) rfl rfl (by (try simp only [List.map_toArray, List.map_cons, List.map_nil]); first | done | (rw [show (l0.drop 8).length = (l0.length - 8) from List.length_drop] <;> rfl) | rfl | (simp only [List.length_drop, List.length_take]; rfl)) ?_
                    with_reducible refine (impl_number24.calls _ _ (l0.drop 8) t239 _ ?side1 ?side2 A16.out).mono ?_
                    (case side1 => repeat (first | exact (Kd.C_below HR238.out (bel_ HB.out)) | (with_reducible refine Kd.C_alloc ?_ _) | (with_reducible refine Kd.C_drewN ?_ _) | (with_reducible refine Kd.C_drew ?_)))
                    (case side2 => exact HC238.out)
                    rintro e w' ⟨rfl, ⟨nd, rfl⟩⟩
                    refine ⟨_, rfl, ?_⟩
                    refine hK.out _ _ ⟨((HB.out.cell (World.block_lt_of_cell? w _ hw231_0)).trans hw231_0), ((HB.out.cell (World.block_lt_of_cell? w _ hw232_0)).trans hw232_0), ((HB.out.cell (World.block_lt_of_cell? w _ hw233_0)).trans hw233_0), ((HB.out.cell (World.block_lt_of_cell? w _ hw234_0)).trans hw234_0), ((HB.out.cell (World.block_lt_of_cell? w _ hw235_0)).trans hw235_0), ((HB.out.cell (World.block_lt_of_cell? w _ hw240_0)).trans hw240_0), ((HB.out.cell (World.block_lt_of_cell? w _ hw241_0)).trans hw241_0)⟩ (fun hHeld => ?_)
                    clear hK K
                    refine norm_ (a' := ?_) ?_ ?_
                    rotate_left
                    ·show Act.put _ (some 57) _ = _
                     simp only [Act.put, sA_, sZ_, sS_, i64_w, i32_w]
                     rfl
                    refine pu_ 40 66 HT_ (bs 43 4398046511103) rfl rfl ?_
                    exact norm_ (by simp only [putAll, Act.put, sA_, sZ_, sS_]) (hCont (gb242) _ ⟨hHeld, (fb_ BK226.out), (fb_ BK242.out), GW242.out, GE242.out, NB226_242.out, NB242_226.out, (bel_ HB.out)⟩)
                  rintro gb242 w30 ⟨hS_, h0_, h1_, h2_, h3_, h4_, h5_, h6_⟩
                  have n0_ : Aside0 (w30.heap[gb226]? = some (.cells #[.int .i64 0, .int .i64 0, .int .i64 0, .int .i64 0, .int .i64 0, .int .i64 0] 35 (0, 0))) := ⟨h0_⟩
                  have n1_ : Aside0 (w30.heap[gb242]? = some (.cells #[.int .i64 0, .int .i64 0, .int .i64 0, .int .i64 0, .int .i64 0, .int .i64 0] 35 (0, 0))) := ⟨h1_⟩
                  have n2_ : Aside0 (w.heap.size ≤ gb242) := ⟨h2_⟩
                  have n3_ : Aside0 (w.heap.size ≤ gb242) := ⟨h3_⟩
                  have n4_ : Aside0 (gb226 ≠ gb242) := ⟨h4_⟩
                  have n5_ : Aside0 (gb242 ≠ gb226) := ⟨h5_⟩
                  have n6_ : Aside0 (Below w.heap.size w w30) := ⟨h6_⟩
                  clear BK226
                  clear HB
                  clear h0_ h1_ h2_ h3_ h4_ h5_ h6_
                  have BK226 := n0_
                  have BK242 := n1_
                  have GW242 := n2_
                  have GE242 := n3_
                  have NB226_242 := n4_
                  have NB242_226 := n5_
                  have HB := n6_
                  clear n0_ n1_ n2_ n3_ n4_ n5_ n6_
                  have hHeld : w30.cell? ad229 = some (.int .u8 (rd l0 0)) ∧ w30.cell? ⟨ad229.block, ad229.off + 1, none⟩ = some (.int .u8 (rd l0 1)) ∧ w30.cell? ⟨ad229.block, ad229.off + 2, none⟩ = some (.int .u8 (rd l0 2)) ∧ w30.cell? ⟨ad229.block, ad229.off + 3, none⟩ = some (.int .u8 (rd l0 3)) ∧ w30.cell? ⟨ad229.block, ad229.off + 4, none⟩ = some (.int .u8 (rd l0 4)) ∧ w30.cell? ⟨ad229.block, ad229.off + 11, none⟩ = some (.int .u8 (rd l0 11)) ∧ w30.cell? ⟨ad229.block, ad229.off + 12, none⟩ = some (.int .u8 (rd l0 12)) := hS_
                  refine norm_ (a' := ?_) ?_ ?_
                  rotate_left
                  ·simp only [putAll, Act.put, sA_, sZ_, sS_]
                   rfl
                  refine one_ (i := 42) (N := none) (bs 43 8796093022207) rfl rfl (one_of HT_.out (by kernel_rfl)) (by decide) (fun K hK => ?_)
                  have hs31 : w30.cell? ⟨gb242, 0, none⟩ = some (.int .i64 0) := (blk_cell BK242.out 0).trans rfl
                  have hfs31 := blk_frozen BK242.out 0
                  have hns31_0 := NB226_242.out
                  have hms31_0 := NB242_226.out
                  have hs32 : w30.cell? ⟨gb242, 1, none⟩ = some (.int .i64 0) := (blk_cell BK242.out 1).trans rfl
                  have hfs32 := blk_frozen BK242.out 1
                  have hns32_0 := NB226_242.out
                  have hms32_0 := NB242_226.out
                  have hs33 : w30.cell? ⟨gb242, 2, none⟩ = some (.int .i64 0) := (blk_cell BK242.out 2).trans rfl
                  have hfs33 := blk_frozen BK242.out 2
                  have hns33_0 := NB226_242.out
                  have hms33_0 := NB242_226.out
                  have hs34 : w30.cell? ⟨gb242, 3, none⟩ = some (.int .i64 0) := (blk_cell BK242.out 3).trans rfl
                  have hfs34 := blk_frozen BK242.out 3
                  have hns34_0 := NB226_242.out
                  have hms34_0 := NB242_226.out
                  have hs35 : w30.cell? ⟨gb242, 4, none⟩ = some (.int .i64 0) := (blk_cell BK242.out 4).trans rfl
                  have hfs35 := blk_frozen BK242.out 4
                  have hns35_0 := NB226_242.out
                  have hms35_0 := NB242_226.out
                  have hs36 : w30.cell? ⟨gb242, 5, none⟩ = some (.int .i64 0) := (blk_cell BK242.out 5).trans rfl
                  have hfs36 := blk_frozen BK242.out 5
                  have hns36_0 := NB226_242.out
                  have hms36_0 := NB242_226.out
                  refine skip_ (w1 := ?_) (by rfl) rfl ?_ ?_
                  rotate_left
                  ·go_simp
                   rfl
                  refine hK.out _ _ ⟨((cell_far (p := ⟨gb242, _, none⟩) (nf_ hw231_0 GW242.out) _).trans (((cell_far (p := ⟨gb242, _, none⟩) (nf_ hw231_0 GW242.out) _).trans (((cell_far (p := ⟨gb242, _, none⟩) (nf_ hw231_0 GW242.out) _).trans (((cell_far (p := ⟨gb242, _, none⟩) (nf_ hw231_0 GW242.out) _).trans (((cell_far (p := ⟨gb242, _, none⟩) (nf_ hw231_0 GW242.out) _).trans (((cell_far (p := ⟨gb242, _, none⟩) (nf_ hw231_0 GW242.out) _).trans (hHeld.1)))))))))))), ((cell_far (p := ⟨gb242, _, none⟩) (nf_ hw232_0 GW242.out) _).trans (((cell_far (p := ⟨gb242, _, none⟩) (nf_ hw232_0 GW242.out) _).trans (((cell_far (p := ⟨gb242, _, none⟩) (nf_ hw232_0 GW242.out) _).trans (((cell_far (p := ⟨gb242, _, none⟩) (nf_ hw232_0 GW242.out) _).trans (((cell_far (p := ⟨gb242, _, none⟩) (nf_ hw232_0 GW242.out) _).trans (((cell_far (p := ⟨gb242, _, none⟩) (nf_ hw232_0 GW242.out) _).trans (hHeld.2.1)))))))))))), ((cell_far (p := ⟨gb242, _, none⟩) (nf_ hw233_0 GW242.out) _).trans (((cell_far (p := ⟨gb242, _, none⟩) (nf_ hw233_0 GW242.out) _).trans (((cell_far (p := ⟨gb242, _, none⟩) (nf_ hw233_0 GW242.out) _).trans (((cell_far (p := ⟨gb242, _, none⟩) (nf_ hw233_0 GW242.out) _).trans (((cell_far (p := ⟨gb242, _, none⟩) (nf_ hw233_0 GW242.out) _).trans (((cell_far (p := ⟨gb242, _, none⟩) (nf_ hw233_0 GW242.out) _).trans (hHeld.2.2.1)))))))))))), ((cell_far (p := ⟨gb242, _, none⟩) (nf_ hw234_0 GW242.out) _).trans (((cell_far (p := ⟨gb242, _, none⟩) (nf_ hw234_0 GW242.out) _).trans (((cell_far (p := ⟨gb242, _, none⟩) (nf_ hw234_0 GW242.out) _).trans (((cell_far (p := ⟨gb242, _, none⟩) (nf_ hw234_0 GW242.out) _).trans (((cell_far (p := ⟨gb242, _, none⟩) (nf_ hw234_0 GW242.out) _).trans (((cell_far (p := ⟨gb242, _, none⟩) (nf_ hw234_0 GW242.out) _).trans (hHeld.2.2.2.1)))))))))))), ((cell_far (p := ⟨gb242, _, none⟩) (nf_ hw235_0 GW242.out) _).trans (((cell_far (p := ⟨gb242, _, none⟩) (nf_ hw235_0 GW242.out) _).trans (((cell_far (p := ⟨gb242, _, none⟩) (nf_ hw235_0 GW242.out) _).trans (((cell_far (p := ⟨gb242, _, none⟩) (nf_ hw235_0 GW242.out) _).trans (((cell_far (p := ⟨gb242, _, none⟩) (nf_ hw235_0 GW242.out) _).trans (((cell_far (p := ⟨gb242, _, none⟩) (nf_ hw235_0 GW242.out) _).trans (hHeld.2.2.2.2.1)))))))))))), ((cell_far (p := ⟨gb242, _, none⟩) (nf_ hw240_0 GW242.out) _).trans (((cell_far (p := ⟨gb242, _, none⟩) (nf_ hw240_0 GW242.out) _).trans (((cell_far (p := ⟨gb242, _, none⟩) (nf_ hw240_0 GW242.out) _).trans (((cell_far (p := ⟨gb242, _, none⟩) (nf_ hw240_0 GW242.out) _).trans (((cell_far (p := ⟨gb242, _, none⟩) (nf_ hw240_0 GW242.out) _).trans (((cell_far (p := ⟨gb242, _, none⟩) (nf_ hw240_0 GW242.out) _).trans (hHeld.2.2.2.2.2.1)))))))))))), ((cell_far (p := ⟨gb242, _, none⟩) (nf_ hw241_0 GW242.out) _).trans (((cell_far (p := ⟨gb242, _, none⟩) (nf_ hw241_0 GW242.out) _).trans (((cell_far (p := ⟨gb242, _, none⟩) (nf_ hw241_0 GW242.out) _).trans (((cell_far (p := ⟨gb242, _, none⟩) (nf_ hw241_0 GW242.out) _).trans (((cell_far (p := ⟨gb242, _, none⟩) (nf_ hw241_0 GW242.out) _).trans (((cell_far (p := ⟨gb242, _, none⟩) (nf_ hw241_0 GW242.out) _).trans (hHeld.2.2.2.2.2.2))))))))))))⟩ (fun hHeld => ?_)
                  clear hK K
                  refine done_ (done_of HT_.out (by kernel_rfl)) ?_
                  have p243 : 0 ≤ (13 : Int) := (by omega)
                  have q243 : 13 < (l0.length : Int) := of_decide_eq_true (by first | (with_reducible assumption) | assumption)
                  obtain ⟨ad243, e243, hx243_0⟩ := Kd.at_int HR0.out 13 p243 q243
                  obtain rfl : ad229 = ad243 := (by injection e243)
                  (try simp only [show (13 : Int).toNat = 13 from rfl, Nat.reduceMul, Nat.reduceEqDiff, Go.Addr.add, ↓reduceIte] at hx243_0)
                  have qi243 : (13 < l0.length) = True := eq_true (by omega)
                  (try rw [show ((13 : Int)).toNat = 13 from rfl] at hx243_0)
                  have hn243_0 : ad229.block ≠ gb242 := Nat.ne_of_lt (Nat.lt_of_lt_of_le (by have := World.block_lt_of_cell? _ _ hx243_0; first | rwa [add_block] at this | exact this) GW242.out)
                  have hn243_1 : ad229.block ≠ gb242 := Nat.ne_of_lt (Nat.lt_of_lt_of_le (by have := World.block_lt_of_cell? _ _ hx243_0; first | rwa [add_block] at this | exact this) GW242.out)
                  have hn243_2 : ad229.block ≠ gb242 := Nat.ne_of_lt (Nat.lt_of_lt_of_le (by have := World.block_lt_of_cell? _ _ hx243_0; first | rwa [add_block] at this | exact this) GW242.out)
                  have hn243_3 : ad229.block ≠ gb242 := Nat.ne_of_lt (Nat.lt_of_lt_of_le (by have := World.block_lt_of_cell? _ _ hx243_0; first | rwa [add_block] at this | exact this) GW242.out)
                  have hn243_4 : ad229.block ≠ gb242 := Nat.ne_of_lt (Nat.lt_of_lt_of_le (by have := World.block_lt_of_cell? _ _ hx243_0; first | rwa [add_block] at this | exact this) GW242.out)
                  have hn243_5 : ad229.block ≠ gb242 := Nat.ne_of_lt (Nat.lt_of_lt_of_le (by have := World.block_lt_of_cell? _ _ hx243_0; first | rwa [add_block] at this | exact this) GW242.out)
                  replace hx243_0 := (HB.out.cell (World.block_lt_of_cell? w _ hx243_0)).trans hx243_0
                  replace hx243_0 := (cell_far (p := ⟨gb242, 0, none⟩) (by first | (rw [add_block]; exact hn243_0) | (show (Addr.add _ _).block ≠ _; rw [add_block]; exact hn243_0) | exact hn243_0) (.int .i64 (wrap64 (rd l0 0)))).trans hx243_0
                  replace hx243_0 := (cell_far (p := ⟨gb242, 1, none⟩) (by first | (rw [add_block]; exact hn243_1) | (show (Addr.add _ _).block ≠ _; rw [add_block]; exact hn243_1) | exact hn243_1) (.int .i64 (Go.bits .or .i64 (Go.bits .or .i64 (Go.bits .or .i64 (wrap64 ((wrap64 (rd l0 1)) * 16777216)) (wrap64 ((wrap64 (rd l0 2)) * 65536))) (wrap64 ((wrap64 (rd l0 3)) * 256))) (wrap64 (rd l0 4))))).trans hx243_0
                  replace hx243_0 := (cell_far (p := ⟨gb242, 2, none⟩) (by first | (rw [add_block]; exact hn243_2) | (show (Addr.add _ _).block ≠ _; rw [add_block]; exact hn243_2) | exact hn243_2) (.int .i64 t237)).trans hx243_0
                  replace hx243_0 := (cell_far (p := ⟨gb242, 3, none⟩) (by first | (rw [add_block]; exact hn243_3) | (show (Addr.add _ _).block ≠ _; rw [add_block]; exact hn243_3) | exact hn243_3) (.int .i64 t239)).trans hx243_0
                  replace hx243_0 := (cell_far (p := ⟨gb242, 4, none⟩) (by first | (rw [add_block]; exact hn243_4) | (show (Addr.add _ _).block ≠ _; rw [add_block]; exact hn243_4) | exact hn243_4) (.int .i64 (wrap64 (rd l0 11)))).trans hx243_0
                  replace hx243_0 := (cell_far (p := ⟨gb242, 5, none⟩) (by first | (rw [add_block]; exact hn243_5) | (show (Addr.add _ _).block ≠ _; rw [add_block]; exact hn243_5) | exact hn243_5) (.int .i64 (wrap64 (rd l0 12)))).trans hx243_0
                  clear hn243_0
                  clear hn243_1
                  clear hn243_2
                  clear hn243_3
                  clear hn243_4
                  clear hn243_5
                  replace p243 := eq_true p243
                  replace q243 := eq_true q243
                  have hnb37 := NB242_226.out
                  have hnc37 := NB226_242.out
                  have hcz38_0 : w30.cell? ⟨gb242, 0, none⟩ = some (.int .i64 0) := (blk_cell BK242.out 0).trans rfl
                  have hcz38_1 : w30.cell? ⟨gb242, 1, none⟩ = some (.int .i64 0) := (blk_cell BK242.out 1).trans rfl
                  have hcz38_2 : w30.cell? ⟨gb242, 2, none⟩ = some (.int .i64 0) := (blk_cell BK242.out 2).trans rfl
                  have hcz38_3 : w30.cell? ⟨gb242, 3, none⟩ = some (.int .i64 0) := (blk_cell BK242.out 3).trans rfl
                  have hcz38_4 : w30.cell? ⟨gb242, 4, none⟩ = some (.int .i64 0) := (blk_cell BK242.out 4).trans rfl
                  have hcz38_5 : w30.cell? ⟨gb242, 5, none⟩ = some (.int .i64 0) := (blk_cell BK242.out 5).trans rfl
                  have hfz38_0 := blk_frozen BK242.out 0
                  have hfz38_1 := blk_frozen BK242.out 1
                  have hfz38_2 := blk_frozen BK242.out 2
                  have hfz38_3 := blk_frozen BK242.out 3
                  have hfz38_4 := blk_frozen BK242.out 4
                  have hfz38_5 := blk_frozen BK242.out 5
                  try go_wp2_with (first | (go_at_call 20; (with_reducible refine (impl_ReportOk.calls (wrap64 (rd l0 0)) (Go.bits .or .i64 (Go.bits .or .i64 (Go.bits .or .i64 (wrap64 ((wrap64 (rd l0 1)) * 16777216)) (wrap64 ((wrap64 (rd l0 2)) * 65536))) (wrap64 ((wrap64 (rd l0 3)) * 256))) (wrap64 (rd l0 4))) t237 t239 (wrap64 (rd l0 11)) (wrap64 (rd l0 12)) true _ A21.out).mono ?_); rintro e w39 ⟨rfl, hb⟩; have n0_ := Aside0.mk (ba_ BK226.out hb); have n1_ := Aside0.mk (blk_below (g := gb242) (o := .cells #[.int .i64 (wrap64 (rd l0 0)), .int .i64 (Go.bits .or .i64 (Go.bits .or .i64 (Go.bits .or .i64 (wrap64 ((wrap64 (rd l0 1)) * 16777216)) (wrap64 ((wrap64 (rd l0 2)) * 65536))) (wrap64 ((wrap64 (rd l0 3)) * 256))) (wrap64 (rd l0 4))), .int .i64 t237, .int .i64 t239, .int .i64 (wrap64 (rd l0 11)), .int .i64 (wrap64 (rd l0 12))] 35 (0, 0)) (by refine rp_ ?_; refine blk_put (cs := #[.int .i64 (wrap64 (rd l0 0)), .int .i64 (Go.bits .or .i64 (Go.bits .or .i64 (Go.bits .or .i64 (wrap64 ((wrap64 (rd l0 1)) * 16777216)) (wrap64 ((wrap64 (rd l0 2)) * 65536))) (wrap64 ((wrap64 (rd l0 3)) * 256))) (wrap64 (rd l0 4))), .int .i64 t237, .int .i64 t239, .int .i64 (wrap64 (rd l0 11)), .int .i64 0]) ?_ 5 _ rfl; refine rp_ ?_; refine blk_put (cs := #[.int .i64 (wrap64 (rd l0 0)), .int .i64 (Go.bits .or .i64 (Go.bits .or .i64 (Go.bits .or .i64 (wrap64 ((wrap64 (rd l0 1)) * 16777216)) (wrap64 ((wrap64 (rd l0 2)) * 65536))) (wrap64 ((wrap64 (rd l0 3)) * 256))) (wrap64 (rd l0 4))), .int .i64 t237, .int .i64 t239, .int .i64 0, .int .i64 0]) ?_ 4 _ rfl; refine rp_ ?_; refine blk_put (cs := #[.int .i64 (wrap64 (rd l0 0)), .int .i64 (Go.bits .or .i64 (Go.bits .or .i64 (Go.bits .or .i64 (wrap64 ((wrap64 (rd l0 1)) * 16777216)) (wrap64 ((wrap64 (rd l0 2)) * 65536))) (wrap64 ((wrap64 (rd l0 3)) * 256))) (wrap64 (rd l0 4))), .int .i64 t237, .int .i64 0, .int .i64 0, .int .i64 0]) ?_ 3 _ rfl; refine rp_ ?_; refine blk_put (cs := #[.int .i64 (wrap64 (rd l0 0)), .int .i64 (Go.bits .or .i64 (Go.bits .or .i64 (Go.bits .or .i64 (wrap64 ((wrap64 (rd l0 1)) * 16777216)) (wrap64 ((wrap64 (rd l0 2)) * 65536))) (wrap64 ((wrap64 (rd l0 3)) * 256))) (wrap64 (rd l0 4))), .int .i64 0, .int .i64 0, .int .i64 0, .int .i64 0]) ?_ 2 _ rfl; refine rp_ ?_; refine blk_put (cs := #[.int .i64 (wrap64 (rd l0 0)), .int .i64 0, .int .i64 0, .int .i64 0, .int .i64 0, .int .i64 0]) ?_ 1 _ rfl; refine rp_ ?_; refine blk_put (cs := #[.int .i64 0, .int .i64 0, .int .i64 0, .int .i64 0, .int .i64 0, .int .i64 0]) ?_ 0 _ rfl; refine rp_ ?_; exact BK242.out) hb); have n2_ := Aside0.mk (below_step (bel_ HB.out) hb); clear BK226; clear BK242; clear HB; have BK226 := n0_; have BK242 := n1_; have HB := n2_; clear n0_ n1_ n2_; (try clear hb); (try clear hb2); (try clear hk); (try clear hi); have hcz40_0 : w39.cell? ⟨gb242, 0, none⟩ = some (.int .i64 (wrap64 (rd l0 0))) := (blk_cell BK242.out 0).trans rfl; have hcz40_1 : w39.cell? ⟨gb242, 1, none⟩ = some (.int .i64 (Go.bits .or .i64 (Go.bits .or .i64 (Go.bits .or .i64 (wrap64 ((wrap64 (rd l0 1)) * 16777216)) (wrap64 ((wrap64 (rd l0 2)) * 65536))) (wrap64 ((wrap64 (rd l0 3)) * 256))) (wrap64 (rd l0 4)))) := (blk_cell BK242.out 1).trans rfl; have hcz40_2 : w39.cell? ⟨gb242, 2, none⟩ = some (.int .i64 t237) := (blk_cell BK242.out 2).trans rfl; have hcz40_3 : w39.cell? ⟨gb242, 3, none⟩ = some (.int .i64 t239) := (blk_cell BK242.out 3).trans rfl; have hcz40_4 : w39.cell? ⟨gb242, 4, none⟩ = some (.int .i64 (wrap64 (rd l0 11))) := (blk_cell BK242.out 4).trans rfl; have hcz40_5 : w39.cell? ⟨gb242, 5, none⟩ = some (.int .i64 (wrap64 (rd l0 12))) := (blk_cell BK242.out 5).trans rfl; have hfz40_0 := blk_frozen BK242.out 0; have hfz40_1 := blk_frozen BK242.out 1; have hfz40_2 := blk_frozen BK242.out 2; have hfz40_3 := blk_frozen BK242.out 3; have hfz40_4 := blk_frozen BK242.out 4; have hfz40_5 := blk_frozen BK242.out 5; have hcz41_0 : w39.cell? ⟨gb226, 0, none⟩ = some (.int .i64 0) := (blk_cell BK226.out 0).trans rfl; have hcz41_1 : w39.cell? ⟨gb226, 1, none⟩ = some (.int .i64 0) := (blk_cell BK226.out 1).trans rfl; have hcz41_2 : w39.cell? ⟨gb226, 2, none⟩ = some (.int .i64 0) := (blk_cell BK226.out 2).trans rfl; have hcz41_3 : w39.cell? ⟨gb226, 3, none⟩ = some (.int .i64 0) := (blk_cell BK226.out 3).trans rfl; have hcz41_4 : w39.cell? ⟨gb226, 4, none⟩ = some (.int .i64 0) := (blk_cell BK226.out 4).trans rfl; have hcz41_5 : w39.cell? ⟨gb226, 5, none⟩ = some (.int .i64 0) := (blk_cell BK226.out 5).trans rfl; have hfz41_0 := blk_frozen BK226.out 0; have hfz41_1 := blk_frozen BK226.out 1; have hfz41_2 := blk_frozen BK226.out 2; have hfz41_3 := blk_frozen BK226.out 3; have hfz41_4 := blk_frozen BK226.out 4; have hfz41_5 := blk_frozen BK226.out 5))
                  refine bodyPost_ret (results_ct rfl _ _ gb226 35 #[.int .i64 (wrap64 (rd l0 0)), .int .i64 (Go.bits .or .i64 (Go.bits .or .i64 (Go.bits .or .i64 (wrap64 ((wrap64 (rd l0 1)) * 16777216)) (wrap64 ((wrap64 (rd l0 2)) * 65536))) (wrap64 ((wrap64 (rd l0 3)) * 256))) (wrap64 (rd l0 4))), .int .i64 t237, .int .i64 t239, .int .i64 (wrap64 (rd l0 11)), .int .i64 (wrap64 (rd l0 12))] (0, 0) _ rfl (by refine rp_ ?_; refine blk_put (cs := #[.int .i64 (wrap64 (rd l0 0)), .int .i64 (Go.bits .or .i64 (Go.bits .or .i64 (Go.bits .or .i64 (wrap64 ((wrap64 (rd l0 1)) * 16777216)) (wrap64 ((wrap64 (rd l0 2)) * 65536))) (wrap64 ((wrap64 (rd l0 3)) * 256))) (wrap64 (rd l0 4))), .int .i64 t237, .int .i64 t239, .int .i64 (wrap64 (rd l0 11)), .int .i64 0]) ?_ 5 _ rfl; refine rp_ ?_; refine blk_put (cs := #[.int .i64 (wrap64 (rd l0 0)), .int .i64 (Go.bits .or .i64 (Go.bits .or .i64 (Go.bits .or .i64 (wrap64 ((wrap64 (rd l0 1)) * 16777216)) (wrap64 ((wrap64 (rd l0 2)) * 65536))) (wrap64 ((wrap64 (rd l0 3)) * 256))) (wrap64 (rd l0 4))), .int .i64 t237, .int .i64 t239, .int .i64 0, .int .i64 0]) ?_ 4 _ rfl; refine rp_ ?_; refine blk_put (cs := #[.int .i64 (wrap64 (rd l0 0)), .int .i64 (Go.bits .or .i64 (Go.bits .or .i64 (Go.bits .or .i64 (wrap64 ((wrap64 (rd l0 1)) * 16777216)) (wrap64 ((wrap64 (rd l0 2)) * 65536))) (wrap64 ((wrap64 (rd l0 3)) * 256))) (wrap64 (rd l0 4))), .int .i64 t237, .int .i64 0, .int .i64 0, .int .i64 0]) ?_ 3 _ rfl; refine rp_ ?_; refine blk_put (cs := #[.int .i64 (wrap64 (rd l0 0)), .int .i64 (Go.bits .or .i64 (Go.bits .or .i64 (Go.bits .or .i64 (wrap64 ((wrap64 (rd l0 1)) * 16777216)) (wrap64 ((wrap64 (rd l0 2)) * 65536))) (wrap64 ((wrap64 (rd l0 3)) * 256))) (wrap64 (rd l0 4))), .int .i64 0, .int .i64 0, .int .i64 0, .int .i64 0]) ?_ 2 _ rfl; refine rp_ ?_; refine blk_put (cs := #[.int .i64 (wrap64 (rd l0 0)), .int .i64 0, .int .i64 0, .int .i64 0, .int .i64 0, .int .i64 0]) ?_ 1 _ rfl; refine rp_ ?_; refine blk_put (cs := #[.int .i64 0, .int .i64 0, .int .i64 0, .int .i64 0, .int .i64 0, .int .i64 0]) ?_ 0 _ rfl; refine rp_ ?_; exact BK226.out) Try.underlying35 rfl (by kernel_rfl)) rfl ?_
                  exact ⟨by first | rfl | (simp [errW_none, errW_some] <;> rfl) | (simp [*, errW_none, errW_some] <;> rfl), bel_ HB.out⟩
                 ·replace c22 := Bool.eq_false_iff.mpr c22
                  subst c22
                  have H1 : (some (0, 0, 0, 0, 0, 0, 3)) = some (r1, r2, r3, r4, r5, r6, r7) := by rw [if_neg (show ¬ (false = true) by decide)] at H; exact H
                  clear H
                  have H := H1
                  clear H1
                  simp only [Option.some.injEq, Prod.mk.injEq] at H
                  obtain ⟨rfl, rfl, rfl, rfl, rfl, rfl, rfl⟩ := H
                  go_enter Try.func21, Try.ntmps21
                  try go_wp2_with (first | ((with_reducible refine gate_dst (N := 2) rfl ?_); refine box_event ?hg (N := 2) ?hd (cs := #[.int .i64 0, .int .i64 0, .int .i64 0, .int .i64 0, .int .i64 0, .int .i64 0]) (t := 35) ?hr ?_; (case hd => rfl); (case hg => rfl); (case hr => first | (go_simp; done) | (go_simp; rfl)); intro gb226 hg w42 hbox hb; have n0_ := Aside0.mk (below_step (bel_ HB.out) hb); have n1_ := Aside0.mk (hbox); have n2_ := Aside0.mk ((by rw [hg]; exact (below_size (bel_ HB.out)) : w.heap.size ≤ gb226)); have n3_ := Aside0.mk ((by rw [hg]; exact (below_size (bel_ HB.out)) : w.heap.size ≤ gb226)); clear HB; have HB := n0_; have BK226 := n1_; have GW226 := n2_; have GE226 := n3_; clear n0_ n1_ n2_ n3_; clear hb hbox hg))
                  have n0_ := Aside0.mk (blk_drew BK226.out)
                  have n1_ := Aside0.mk (below_drew1 HB.out)
                  clear BK226
                  clear HB
                  have BK226 := n0_
                  have HB := n1_
                  clear n0_ n1_
                  obtain ⟨i044, hi044, _, hsz44, _⟩ := info_parts info5
                  obtain ⟨hcut44, hA44, hC44⟩ := print_take_of (P := Try.prog) (Value.int .u8) 0 22 5 .i64 Try.underlying22 hi044 hsz44 A0 c0 l0 14 (by omega) (of_decide_eq_true (by first | (with_reducible assumption) | assumption)) HC0.out
                  have HR227 := Aside0.mk (Kd.C_of_reads (h1 := fun _ => rfl) (hA44 _ (Kd.reads_of_C HR0.out)))
                  have HC227 := Aside0.mk hC44
                  clear hA44 hC44 hi044 hsz44
                  have p229 : 0 ≤ (14 : Int) := (by omega)
                  have q229 : 14 < (l0.length : Int) := of_decide_eq_true (by first | (with_reducible assumption) | assumption)
                  obtain ⟨ad229, e229, hx229_0⟩ := Kd.at_int HR0.out 14 p229 q229
                  have hw229_0 := hx229_0
                  (try rw [show ((14 : Int)).toNat = 14 from rfl] at hw229_0)
                  (try rw [show 14 * 1 = 14 from rfl] at hw229_0)
                  (try simp only [Nat.reduceMul, Nat.reduceEqDiff, Go.Addr.add, ↓reduceIte] at hw229_0)
                  cases e229
                  (try simp only [show (14 : Int).toNat = 14 from rfl, Nat.reduceMul, Nat.reduceEqDiff, Go.Addr.add, ↓reduceIte] at hx229_0)
                  have qi229 : (14 < l0.length) = True := eq_true (by omega)
                  (try rw [show ((14 : Int)).toNat = 14 from rfl] at hx229_0)
                  replace hx229_0 := (HB.out.cell (World.block_lt_of_cell? w _ hx229_0)).trans hx229_0
                  replace p229 := eq_true p229
                  replace q229 := eq_true q229
                  have p230 : 0 ≤ (15 : Int) := (by omega)
                  have q230 : 15 < (l0.length : Int) := of_decide_eq_true (by first | (with_reducible assumption) | assumption)
                  obtain ⟨ad230, e230, hx230_0⟩ := Kd.at_int HR0.out 15 p230 q230
                  have hw230_0 := hx230_0
                  (try rw [show ((15 : Int)).toNat = 15 from rfl] at hw230_0)
                  (try rw [show 15 * 1 = 15 from rfl] at hw230_0)
                  (try simp only [Nat.reduceMul, Nat.reduceEqDiff, Go.Addr.add, ↓reduceIte] at hw230_0)
                  obtain rfl : ad229 = ad230 := (by injection e230)
                  (try simp only [show (15 : Int).toNat = 15 from rfl, Nat.reduceMul, Nat.reduceEqDiff, Go.Addr.add, ↓reduceIte] at hx230_0)
                  have qi230 : (15 < l0.length) = True := eq_true (by omega)
                  (try rw [show ((15 : Int)).toNat = 15 from rfl] at hx230_0)
                  replace hx230_0 := (HB.out.cell (World.block_lt_of_cell? w _ hx230_0)).trans hx230_0
                  replace p230 := eq_true p230
                  replace q230 := eq_true q230
                  refine start_ (n := 14) (S := fun w' => w'.cell? ⟨ad229.block, ad229.off + 14, none⟩ = some (.int .u8 (rd l0 14)) ∧ w'.cell? ⟨ad229.block, ad229.off + 15, none⟩ = some (.int .u8 (rd l0 15))) (ds := []) (bs 14 0) (by kernel_rfl) rfl rfl ⟨((HB.out.cell (World.block_lt_of_cell? w _ hw229_0)).trans hw229_0), ((HB.out.cell (World.block_lt_of_cell? w _ hw230_0)).trans hw230_0)⟩ (fun hHeld => ?_); refine with_tabW impl_ReadReport.tab4 impl_ReadReport.bits4 (fun HT_ HW_ => ?_)
                  generalize w42.drew = w43 at BK226 HB HR227 hx229_0 hx230_0 hHeld ⊢
                  refine pu_ 0 11 HT_ (bs 14 1) rfl rfl ?_
                  refine pu_ 1 12 HT_ (bs 14 3) rfl rfl ?_
                  refine pu_ 3 14 HT_ (bs 14 11) rfl rfl ?_
                  refine pu_ 4 15 HT_ (bs 14 27) rfl rfl ?_
                  refine pu_ 8 19 HT_ (bs 14 283) rfl rfl ?_
                  refine pu_ 9 20 HT_ (bs 14 795) rfl rfl ?_
                  refine take_ (i := 5) (N := some 16) (v := ?_) (a' := ?_) (bs 14 827) rfl rfl (take_ofW HT_.out HW_.out (by kernel_rfl)) (fun _ _ _ h => h) (Or.inl ⟨by rfl, ?_⟩) hHeld ?_ ?_
                  rotate_left
                  ·rintro w' ⟨s0, s1⟩
                   go_simp
                   with_reducible rfl
                  rotate_left
                  ·simp only [Act.put, sA_, sZ_, sS_, i64_w, i32_w]
                   rfl
                  refine pu_ 6 17 HT_ (bs 14 891) rfl rfl ?_
                  refine pu_ 7 18 HT_ (bs 14 1019) rfl rfl ?_
                  refine take_ (i := 10) (N := some 21) (v := ?_) (a' := ?_) (bs 14 2043) rfl rfl (take_ofW HT_.out HW_.out (by kernel_rfl)) (fun _ _ _ h => h) (Or.inl ⟨by rfl, ?_⟩) hHeld ?_ ?_
                  rotate_left
                  ·rintro w' ⟨s0, s1⟩
                   go_simp
                   with_reducible rfl
                  rotate_left
                  ·simp only [Act.put, sA_, sZ_, sS_, i64_w, i32_w]
                   rfl
                  refine pu_ 11 22 HT_ (bs 14 4091) rfl rfl ?_
                  refine pu_ 12 23 HT_ (bs 14 8187) rfl rfl ?_
                  refine one_ (i := 2) (N := some 13) (bs 14 8191) rfl rfl (one_of HT_.out (by kernel_rfl)) (by decide) (fun K hK => ?_)
                  refine goes_ Try.func52 (by kernel_rfl) rfl #[.slice (some ad229) (l0.take 14).length c0] (by rfl) rfl rfl (by (try simp only [List.map_toArray, List.map_cons, List.map_nil]); first | done | (rw [show (l0.take 14).length = 14 from (by rw [List.length_take]; have h_ : (14 : Int) ≤ (l0.length : Int) := of_decide_eq_true (by first | (with_reducible assumption) | assumption); omega)] <;> rfl) | rfl | (simp only [List.length_drop, List.length_take]; rfl)) ?_
                  with_reducible refine (impl_frameCheck.calls k _ _ (l0.take 14) t228 _ ?side1 ?side2 A4.out).mono ?_
                  (case side1 => repeat (first | exact (Kd.C_below HR227.out HB.out) | (with_reducible refine Kd.C_alloc ?_ _) | (with_reducible refine Kd.C_drewN ?_ _) | (with_reducible refine Kd.C_drew ?_)))
                  (case side2 => exact HC227.out)
                  rintro e w' ⟨rfl, ⟨nd, rfl⟩⟩
                  refine ⟨_, rfl, ?_⟩
                  refine hK.out _ _ ⟨((HB.out.cell (World.block_lt_of_cell? w _ hw229_0)).trans hw229_0), ((HB.out.cell (World.block_lt_of_cell? w _ hw230_0)).trans hw230_0)⟩ (fun hHeld => ?_)
                  clear hK K
                  refine norm_ (a' := ?_) ?_ ?_
                  rotate_left
                  ·show Act.put _ (some 13) _ = _
                   simp only [Act.put, sA_, sZ_, sS_, i64_w, i32_w]
                   rfl
                  refine pu_ 13 24 HT_ (bs 14 16383) rfl rfl ?_
                  refine done_ (done_of HT_.out (by kernel_rfl)) ?_
                  try go_wp2
                  (try ((first | generalize hq_ : World.drewN w43 _ = w43 | (rw [drewN_self w43]; generalize hq_ : World.drewN w43 _ = w43)); have n0_ : Aside0 (w43.heap[gb226]? = some (.cells #[.int .i64 0, .int .i64 0, .int .i64 0, .int .i64 0, .int .i64 0, .int .i64 0] 35 (0, 0))) := ⟨by rw [← hq_]; exact (fb_ BK226.out)⟩; have n1_ : Aside0 (Below w.heap.size w w43) := ⟨by rw [← hq_]; exact (bel_ HB.out)⟩; clear BK226 HB hq_; have BK226 := n0_; have HB := n1_; clear n0_ n1_))
                  have n0_ := Aside0.mk (blk_drew BK226.out)
                  have n1_ := Aside0.mk (below_drew1 HB.out)
                  clear BK226
                  clear HB
                  have BK226 := n0_
                  have HB := n1_
                  clear n0_ n1_
                  have p231 : 0 ≤ (0 : Int) := (by omega)
                  have q231 : 0 < (l0.length : Int) := of_decide_eq_true (by first | (with_reducible assumption) | assumption)
                  obtain ⟨ad231, e231, hx231_0⟩ := Kd.at_int HR0.out 0 p231 q231
                  have hw231_0 := hx231_0
                  (try rw [show ((0 : Int)).toNat = 0 from rfl] at hw231_0)
                  (try rw [show 0 * 1 = 0 from rfl] at hw231_0)
                  (try rw [Addr.add_zero'] at hw231_0)
                  obtain rfl : ad229 = ad231 := (by injection e231)
                  have qi231 : (0 < l0.length) = True := eq_true (by omega)
                  (try rw [show ((0 : Int)).toNat = 0 from rfl] at hx231_0)
                  (try rw [Addr.add_zero'] at hx231_0)
                  replace hx231_0 := (HB.out.cell (World.block_lt_of_cell? w _ hx231_0)).trans hx231_0
                  replace p231 := eq_true p231
                  replace q231 := eq_true q231
                  have p232 : 0 ≤ (1 : Int) := (by omega)
                  have q232 : 1 < (l0.length : Int) := of_decide_eq_true (by first | (with_reducible assumption) | assumption)
                  obtain ⟨ad232, e232, hx232_0⟩ := Kd.at_int HR0.out 1 p232 q232
                  have hw232_0 := hx232_0
                  (try rw [show ((1 : Int)).toNat = 1 from rfl] at hw232_0)
                  (try rw [show 1 * 1 = 1 from rfl] at hw232_0)
                  (try simp only [Nat.reduceMul, Nat.reduceEqDiff, Go.Addr.add, ↓reduceIte] at hw232_0)
                  obtain rfl : ad229 = ad232 := (by injection e232)
                  (try simp only [show (1 : Int).toNat = 1 from rfl, Nat.reduceMul, Nat.reduceEqDiff, Go.Addr.add, ↓reduceIte] at hx232_0)
                  have qi232 : (1 < l0.length) = True := eq_true (by omega)
                  (try rw [show ((1 : Int)).toNat = 1 from rfl] at hx232_0)
                  replace hx232_0 := (HB.out.cell (World.block_lt_of_cell? w _ hx232_0)).trans hx232_0
                  replace p232 := eq_true p232
                  replace q232 := eq_true q232
                  have p233 : 0 ≤ (2 : Int) := (by omega)
                  have q233 : 2 < (l0.length : Int) := of_decide_eq_true (by first | (with_reducible assumption) | assumption)
                  obtain ⟨ad233, e233, hx233_0⟩ := Kd.at_int HR0.out 2 p233 q233
                  have hw233_0 := hx233_0
                  (try rw [show ((2 : Int)).toNat = 2 from rfl] at hw233_0)
                  (try rw [show 2 * 1 = 2 from rfl] at hw233_0)
                  (try simp only [Nat.reduceMul, Nat.reduceEqDiff, Go.Addr.add, ↓reduceIte] at hw233_0)
                  obtain rfl : ad229 = ad233 := (by injection e233)
                  (try simp only [show (2 : Int).toNat = 2 from rfl, Nat.reduceMul, Nat.reduceEqDiff, Go.Addr.add, ↓reduceIte] at hx233_0)
                  have qi233 : (2 < l0.length) = True := eq_true (by omega)
                  (try rw [show ((2 : Int)).toNat = 2 from rfl] at hx233_0)
                  replace hx233_0 := (HB.out.cell (World.block_lt_of_cell? w _ hx233_0)).trans hx233_0
                  replace p233 := eq_true p233
                  replace q233 := eq_true q233
                  have p234 : 0 ≤ (3 : Int) := (by omega)
                  have q234 : 3 < (l0.length : Int) := of_decide_eq_true (by first | (with_reducible assumption) | assumption)
                  obtain ⟨ad234, e234, hx234_0⟩ := Kd.at_int HR0.out 3 p234 q234
                  have hw234_0 := hx234_0
                  (try rw [show ((3 : Int)).toNat = 3 from rfl] at hw234_0)
                  (try rw [show 3 * 1 = 3 from rfl] at hw234_0)
                  (try simp only [Nat.reduceMul, Nat.reduceEqDiff, Go.Addr.add, ↓reduceIte] at hw234_0)
                  obtain rfl : ad229 = ad234 := (by injection e234)
                  (try simp only [show (3 : Int).toNat = 3 from rfl, Nat.reduceMul, Nat.reduceEqDiff, Go.Addr.add, ↓reduceIte] at hx234_0)
                  have qi234 : (3 < l0.length) = True := eq_true (by omega)
                  (try rw [show ((3 : Int)).toNat = 3 from rfl] at hx234_0)
                  replace hx234_0 := (HB.out.cell (World.block_lt_of_cell? w _ hx234_0)).trans hx234_0
                  replace p234 := eq_true p234
                  replace q234 := eq_true q234
                  have p235 : 0 ≤ (4 : Int) := (by omega)
                  have q235 : 4 < (l0.length : Int) := of_decide_eq_true (by first | (with_reducible assumption) | assumption)
                  obtain ⟨ad235, e235, hx235_0⟩ := Kd.at_int HR0.out 4 p235 q235
                  have hw235_0 := hx235_0
                  (try rw [show ((4 : Int)).toNat = 4 from rfl] at hw235_0)
                  (try rw [show 4 * 1 = 4 from rfl] at hw235_0)
                  (try simp only [Nat.reduceMul, Nat.reduceEqDiff, Go.Addr.add, ↓reduceIte] at hw235_0)
                  obtain rfl : ad229 = ad235 := (by injection e235)
                  (try simp only [show (4 : Int).toNat = 4 from rfl, Nat.reduceMul, Nat.reduceEqDiff, Go.Addr.add, ↓reduceIte] at hx235_0)
                  have qi235 : (4 < l0.length) = True := eq_true (by omega)
                  (try rw [show ((4 : Int)).toNat = 4 from rfl] at hx235_0)
                  replace hx235_0 := (HB.out.cell (World.block_lt_of_cell? w _ hx235_0)).trans hx235_0
                  replace p235 := eq_true p235
                  replace q235 := eq_true q235
                  obtain ⟨i046, hi046, _, hsz46, _⟩ := info_parts info5
                  obtain ⟨A46, hcut46, hA46, hC46⟩ := print_drop_of (P := Try.prog) (Value.int .u8) 0 22 5 .i64 Try.underlying22 hi046 hsz46 (some ad229) c0 l0 5 (by omega) (of_decide_eq_true (by first | (with_reducible assumption) | assumption)) HC0.out
                  have HR236 := Aside0.mk (Kd.C_of_reads (h1 := fun _ => rfl) (hA46 _ (Kd.reads_of_C HR0.out)))
                  have HC236 := Aside0.mk hC46
                  clear hA46 hC46 hi046 hsz46
                  obtain ⟨i047, hi047, _, hsz47, _⟩ := info_parts info5
                  obtain ⟨A47, hcut47, hA47, hC47⟩ := print_drop_of (P := Try.prog) (Value.int .u8) 0 22 5 .i64 Try.underlying22 hi047 hsz47 (some ad229) c0 l0 8 (by omega) (of_decide_eq_true (by first | (with_reducible assumption) | assumption)) HC0.out
                  have HR238 := Aside0.mk (Kd.C_of_reads (h1 := fun _ => rfl) (hA47 _ (Kd.reads_of_C HR0.out)))
                  have HC238 := Aside0.mk hC47
                  clear hA47 hC47 hi047 hsz47
                  have p240 : 0 ≤ (11 : Int) := (by omega)
                  have q240 : 11 < (l0.length : Int) := of_decide_eq_true (by first | (with_reducible assumption) | assumption)
                  obtain ⟨ad240, e240, hx240_0⟩ := Kd.at_int HR0.out 11 p240 q240
                  have hw240_0 := hx240_0
                  (try rw [show ((11 : Int)).toNat = 11 from rfl] at hw240_0)
                  (try rw [show 11 * 1 = 11 from rfl] at hw240_0)
                  (try simp only [Nat.reduceMul, Nat.reduceEqDiff, Go.Addr.add, ↓reduceIte] at hw240_0)
                  obtain rfl : ad229 = ad240 := (by injection e240)
                  (try simp only [show (11 : Int).toNat = 11 from rfl, Nat.reduceMul, Nat.reduceEqDiff, Go.Addr.add, ↓reduceIte] at hx240_0)
                  have qi240 : (11 < l0.length) = True := eq_true (by omega)
                  (try rw [show ((11 : Int)).toNat = 11 from rfl] at hx240_0)
                  replace hx240_0 := (HB.out.cell (World.block_lt_of_cell? w _ hx240_0)).trans hx240_0
                  replace p240 := eq_true p240
                  replace q240 := eq_true q240
                  have p241 : 0 ≤ (12 : Int) := (by omega)
                  have q241 : 12 < (l0.length : Int) := of_decide_eq_true (by first | (with_reducible assumption) | assumption)
                  obtain ⟨ad241, e241, hx241_0⟩ := Kd.at_int HR0.out 12 p241 q241
                  have hw241_0 := hx241_0
                  (try rw [show ((12 : Int)).toNat = 12 from rfl] at hw241_0)
                  (try rw [show 12 * 1 = 12 from rfl] at hw241_0)
                  (try simp only [Nat.reduceMul, Nat.reduceEqDiff, Go.Addr.add, ↓reduceIte] at hw241_0)
                  obtain rfl : ad229 = ad241 := (by injection e241)
                  (try simp only [show (12 : Int).toNat = 12 from rfl, Nat.reduceMul, Nat.reduceEqDiff, Go.Addr.add, ↓reduceIte] at hx241_0)
                  have qi241 : (12 < l0.length) = True := eq_true (by omega)
                  (try rw [show ((12 : Int)).toNat = 12 from rfl] at hx241_0)
                  replace hx241_0 := (HB.out.cell (World.block_lt_of_cell? w _ hx241_0)).trans hx241_0
                  replace p241 := eq_true p241
                  replace q241 := eq_true q241
                  refine start_ (n := 43) (S := fun w' => w'.cell? ad229 = some (.int .u8 (rd l0 0)) ∧ w'.cell? ⟨ad229.block, ad229.off + 1, none⟩ = some (.int .u8 (rd l0 1)) ∧ w'.cell? ⟨ad229.block, ad229.off + 2, none⟩ = some (.int .u8 (rd l0 2)) ∧ w'.cell? ⟨ad229.block, ad229.off + 3, none⟩ = some (.int .u8 (rd l0 3)) ∧ w'.cell? ⟨ad229.block, ad229.off + 4, none⟩ = some (.int .u8 (rd l0 4)) ∧ w'.cell? ⟨ad229.block, ad229.off + 11, none⟩ = some (.int .u8 (rd l0 11)) ∧ w'.cell? ⟨ad229.block, ad229.off + 12, none⟩ = some (.int .u8 (rd l0 12))) (ds := []) (bs 43 0) (by kernel_rfl) rfl rfl ⟨((HB.out.cell (World.block_lt_of_cell? w _ hw231_0)).trans hw231_0), ((HB.out.cell (World.block_lt_of_cell? w _ hw232_0)).trans hw232_0), ((HB.out.cell (World.block_lt_of_cell? w _ hw233_0)).trans hw233_0), ((HB.out.cell (World.block_lt_of_cell? w _ hw234_0)).trans hw234_0), ((HB.out.cell (World.block_lt_of_cell? w _ hw235_0)).trans hw235_0), ((HB.out.cell (World.block_lt_of_cell? w _ hw240_0)).trans hw240_0), ((HB.out.cell (World.block_lt_of_cell? w _ hw241_0)).trans hw241_0)⟩ (fun hHeld => ?_); refine with_tabW impl_ReadReport.tab6 impl_ReadReport.bits6 (fun HT_ HW_ => ?_)
                  generalize w43.drew = w45 at BK226 HB HR236 HR238 hx231_0 hx232_0 hx233_0 hx234_0 hx235_0 hx240_0 hx241_0 hHeld ⊢
                  refine pu_ 0 26 HT_ (bs 43 1) rfl rfl ?_
                  refine pu_ 1 27 HT_ (bs 43 3) rfl rfl ?_
                  refine pu_ 4 30 HT_ (bs 43 19) rfl rfl ?_
                  refine pu_ 5 31 HT_ (bs 43 51) rfl rfl ?_
                  refine pu_ 9 35 HT_ (bs 43 563) rfl rfl ?_
                  refine pu_ 10 36 HT_ (bs 43 1587) rfl rfl ?_
                  refine pu_ 15 41 HT_ (bs 43 34355) rfl rfl ?_
                  refine pu_ 16 42 HT_ (bs 43 99891) rfl rfl ?_
                  refine pu_ 21 47 HT_ (bs 43 2197043) rfl rfl ?_
                  refine pu_ 22 48 HT_ (bs 43 6391347) rfl rfl ?_
                  refine pu_ 26 52 HT_ (bs 43 73500211) rfl rfl ?_
                  refine pu_ 27 53 HT_ (bs 43 207717939) rfl rfl ?_
                  refine pu_ 29 55 HT_ (bs 43 744588851) rfl rfl ?_
                  refine pu_ 30 56 HT_ (bs 43 1818330675) rfl rfl ?_
                  refine pu_ 32 58 HT_ (bs 43 6113297971) rfl rfl ?_
                  refine pu_ 33 59 HT_ (bs 43 14703232563) rfl rfl ?_
                  refine pu_ 36 62 HT_ (bs 43 83422709299) rfl rfl ?_
                  refine pu_ 37 63 HT_ (bs 43 220861662771) rfl rfl ?_
                  refine take_ (i := 2) (N := some 28) (v := ?_) (a' := ?_) (bs 43 220861662775) rfl rfl (take_ofW HT_.out HW_.out (by kernel_rfl)) (fun _ _ _ h => h) (Or.inl ⟨by rfl, ?_⟩) hHeld ?_ ?_
                  rotate_left
                  ·rintro w' ⟨s0, s1, s2, s3, s4, s5, s6⟩
                   go_simp
                   with_reducible rfl
                  rotate_left
                  ·simp only [Act.put, sA_, sZ_, sS_, i64_w, i32_w]
                   rfl
                  refine pu_ 3 29 HT_ (bs 43 220861662783) rfl rfl ?_
                  refine take_ (i := 6) (N := some 32) (v := ?_) (a' := ?_) (bs 43 220861662847) rfl rfl (take_ofW HT_.out HW_.out (by kernel_rfl)) (fun _ _ _ h => h) (Or.inl ⟨by rfl, ?_⟩) hHeld ?_ ?_
                  rotate_left
                  ·rintro w' ⟨s0, s1, s2, s3, s4, s5, s6⟩
                   go_simp
                   with_reducible rfl
                  rotate_left
                  ·simp only [Act.put, sA_, sZ_, sS_, i64_w, i32_w]
                   rfl
                  refine pu_ 7 33 HT_ (bs 43 220861662975) rfl rfl ?_
                  refine pu_ 8 34 HT_ (bs 43 220861663231) rfl rfl ?_
                  refine take_ (i := 11) (N := some 37) (v := ?_) (a' := ?_) (bs 43 220861665279) rfl rfl (take_ofW HT_.out HW_.out (by kernel_rfl)) (fun _ _ _ h => h) (Or.inl ⟨by rfl, ?_⟩) hHeld ?_ ?_
                  rotate_left
                  ·rintro w' ⟨s0, s1, s2, s3, s4, s5, s6⟩
                   go_simp
                   with_reducible rfl
                  rotate_left
                  ·simp only [Act.put, sA_, sZ_, sS_, i64_w, i32_w]
                   rfl
                  refine pu_ 12 38 HT_ (bs 43 220861669375) rfl rfl ?_
                  refine pu_ 13 39 HT_ (bs 43 220861677567) rfl rfl ?_
                  refine pu_ 14 40 HT_ (bs 43 220861693951) rfl rfl ?_
                  refine take_ (i := 17) (N := some 43) (v := ?_) (a' := ?_) (bs 43 220861825023) rfl rfl (take_ofW HT_.out HW_.out (by kernel_rfl)) (fun _ _ _ h => h) (Or.inl ⟨by rfl, ?_⟩) hHeld ?_ ?_
                  rotate_left
                  ·rintro w' ⟨s0, s1, s2, s3, s4, s5, s6⟩
                   go_simp
                   with_reducible rfl
                  rotate_left
                  ·simp only [Act.put, sA_, sZ_, sS_, i64_w, i32_w]
                   rfl
                  refine pu_ 18 44 HT_ (bs 43 220862087167) rfl rfl ?_
                  refine pu_ 19 45 HT_ (bs 43 220862611455) rfl rfl ?_
                  refine pu_ 20 46 HT_ (bs 43 220863660031) rfl rfl ?_
                  refine take_ (i := 23) (N := some 49) (v := ?_) (a' := ?_) (bs 43 220872048639) rfl rfl (take_ofW HT_.out HW_.out (by kernel_rfl)) (fun _ _ _ h => h) (Or.inl ⟨by rfl, ?_⟩) hHeld ?_ ?_
                  rotate_left
                  ·rintro w' ⟨s0, s1, s2, s3, s4, s5, s6⟩
                   go_simp
                   with_reducible rfl
                  rotate_left
                  ·simp only [Act.put, sA_, sZ_, sS_, i64_w, i32_w]
                   rfl
                  refine pu_ 24 50 HT_ (bs 43 220888825855) rfl rfl ?_
                  refine pu_ 25 51 HT_ (bs 43 220922380287) rfl rfl ?_
                  refine take_ (i := 34) (N := some 60) (v := ?_) (a' := ?_) (bs 43 238102249471) rfl rfl (take_ofW HT_.out HW_.out (by kernel_rfl)) (fun _ _ _ h => h) (Or.inl ⟨by rfl, ?_⟩) hHeld ?_ ?_
                  rotate_left
                  ·rintro w' ⟨s0, s1, s2, s3, s4, s5, s6⟩
                   go_simp
                   with_reducible rfl
                  rotate_left
                  ·simp only [Act.put, sA_, sZ_, sS_, i64_w, i32_w]
                   rfl
                  refine pu_ 35 61 HT_ (bs 43 272461987839) rfl rfl ?_
                  refine take_ (i := 38) (N := some 64) (v := ?_) (a' := ?_) (bs 43 547339894783) rfl rfl (take_ofW HT_.out HW_.out (by kernel_rfl)) (fun _ _ _ h => h) (Or.inl ⟨by rfl, ?_⟩) hHeld ?_ ?_
                  rotate_left
                  ·rintro w' ⟨s0, s1, s2, s3, s4, s5, s6⟩
                   go_simp
                   with_reducible rfl
                  rotate_left
                  ·simp only [Act.put, sA_, sZ_, sS_, i64_w, i32_w]
                   rfl
                  refine pu_ 39 65 HT_ (bs 43 1097095708671) rfl rfl ?_
                  refine join_ (σ := Nat) 1 (bs 43 4398046511103) (fun s_ => [(54, .int .i64 t237), (57, .int .i64 t239), (5, .pointer (some ⟨s_, 0, none⟩)), (66, .agg #[.int .i64 (wrap64 (rd l0 0)), .int .i64 (Go.bits .or .i64 (Go.bits .or .i64 (Go.bits .or .i64 (wrap64 ((wrap64 (rd l0 1)) * 16777216)) (wrap64 ((wrap64 (rd l0 2)) * 65536))) (wrap64 ((wrap64 (rd l0 3)) * 256))) (wrap64 (rd l0 4))), .int .i64 t237, .int .i64 t239, .int .i64 (wrap64 (rd l0 11)), .int .i64 (wrap64 (rd l0 12))])]) (fun s_ w' => (w'.cell? ad229 = some (.int .u8 (rd l0 0)) ∧ w'.cell? ⟨ad229.block, ad229.off + 1, none⟩ = some (.int .u8 (rd l0 1)) ∧ w'.cell? ⟨ad229.block, ad229.off + 2, none⟩ = some (.int .u8 (rd l0 2)) ∧ w'.cell? ⟨ad229.block, ad229.off + 3, none⟩ = some (.int .u8 (rd l0 3)) ∧ w'.cell? ⟨ad229.block, ad229.off + 4, none⟩ = some (.int .u8 (rd l0 4)) ∧ w'.cell? ⟨ad229.block, ad229.off + 11, none⟩ = some (.int .u8 (rd l0 11)) ∧ w'.cell? ⟨ad229.block, ad229.off + 12, none⟩ = some (.int .u8 (rd l0 12))) ∧ (w'.heap[gb226]? = some (.cells #[.int .i64 0, .int .i64 0, .int .i64 0, .int .i64 0, .int .i64 0, .int .i64 0] 35 (0, 0))) ∧ (w'.heap[s_]? = some (.cells #[.int .i64 0, .int .i64 0, .int .i64 0, .int .i64 0, .int .i64 0, .int .i64 0] 35 (0, 0))) ∧ (w.heap.size ≤ s_) ∧ (w.heap.size ≤ s_) ∧ (gb226 ≠ s_) ∧ (s_ ≠ gb226) ∧ (Below w.heap.size w w')) ?_ ?_
                  rotate_left
                  ·intro hCont
                   refine two_ (i := 28) (j := 41) (Ni := some 54) (Nj := some 5) (bs 43 1097364144127) (bs 43 3296118964223) rfl rfl rfl rfl (two_of HT_.out (by kernel_rfl)) (by decide) (by decide) (fun K hK => ?_) (fun K hK => ?_)
                   ·skip
                    refine goes_ Try.func56 (by kernel_rfl) rfl #[.slice A46 (l0.drop 5).length (c0 - 5)] (by rfl) rfl rfl (by (try simp only [List.map_toArray, List.map_cons, List.map_nil]); first | done | (rw [show (l0.drop 5).length = (l0.length - 5) from List.length_drop] <;> rfl) | rfl | (simp only [List.length_drop, List.length_take]; rfl)) ?_
                    with_reducible refine (impl_number24.calls _ _ (l0.drop 5) t237 _ ?side1 ?side2 A14.out).mono ?_
                    (case side1 => repeat (first | exact (Kd.C_below HR236.out HB.out) | (with_reducible refine Kd.C_alloc ?_ _) | (with_reducible refine Kd.C_drewN ?_ _) | (with_reducible refine Kd.C_drew ?_)))
                    (case side2 => exact HC236.out)
                    rintro e w' ⟨rfl, ⟨nd, rfl⟩⟩
                    refine ⟨_, rfl, ?_⟩
                    refine hK.out _ _ ⟨((HB.out.cell (World.block_lt_of_cell? w _ hw231_0)).trans hw231_0), ((HB.out.cell (World.block_lt_of_cell? w _ hw232_0)).trans hw232_0), ((HB.out.cell (World.block_lt_of_cell? w _ hw233_0)).trans hw233_0), ((HB.out.cell (World.block_lt_of_cell? w _ hw234_0)).trans hw234_0), ((HB.out.cell (World.block_lt_of_cell? w _ hw235_0)).trans hw235_0), ((HB.out.cell (World.block_lt_of_cell? w _ hw240_0)).trans hw240_0), ((HB.out.cell (World.block_lt_of_cell? w _ hw241_0)).trans hw241_0)⟩ (fun hHeld => ?_)
                    clear hK K
                    refine norm_ (a' := ?_) ?_ ?_
                    rotate_left
                    ·show Act.put _ (some 54) _ = _
                     simp only [Act.put, sA_, sZ_, sS_, i64_w, i32_w]
                     rfl
                    refine two_ (i := 31) (j := 41) (Ni := some 57) (Nj := some 5) (bs 43 1099511627775) (bs 43 3296387399679) rfl rfl rfl rfl (two_of HT_.out (by kernel_rfl)) (by decide) (by decide) (fun K hK => ?_) (fun K hK => ?_)
                    ·skip
                     refine goes_ Try.func56 (by kernel_rfl) rfl #[.slice A47 (l0.drop 8).length (c0 - 8)] (by rfl) rfl rfl (by (try simp only [List.map_toArray, List.map_cons, List.map_nil]); first | done | (rw [show (l0.drop 8).length = (l0.length - 8) from List.length_drop] <;> rfl) | rfl | (simp only [List.length_drop, List.length_take]; rfl)) ?_
                     with_reducible refine (impl_number24.calls _ _ (l0.drop 8) t239 _ ?side1 ?side2 A16.out).mono ?_
                     (case side1 => repeat (first | exact (Kd.C_below HR238.out (bel_ HB.out)) | (with_reducible refine Kd.C_alloc ?_ _) | (with_reducible refine Kd.C_drewN ?_ _) | (with_reducible refine Kd.C_drew ?_)))
                     (case side2 => exact HC238.out)
                     rintro e w' ⟨rfl, ⟨nd, rfl⟩⟩
                     refine ⟨_, rfl, ?_⟩
                     refine hK.out _ _ ⟨((HB.out.cell (World.block_lt_of_cell? w _ hw231_0)).trans hw231_0), ((HB.out.cell (World.block_lt_of_cell? w _ hw232_0)).trans hw232_0), ((HB.out.cell (World.block_lt_of_cell? w _ hw233_0)).trans hw233_0), ((HB.out.cell (World.block_lt_of_cell? w _ hw234_0)).trans hw234_0), ((HB.out.cell (World.block_lt_of_cell? w _ hw235_0)).trans hw235_0), ((HB.out.cell (World.block_lt_of_cell? w _ hw240_0)).trans hw240_0), ((HB.out.cell (World.block_lt_of_cell? w _ hw241_0)).trans hw241_0)⟩ (fun hHeld => ?_)
                     clear hK K
                     refine norm_ (a' := ?_) ?_ ?_
                     rotate_left
                     ·show Act.put _ (some 57) _ = _
                      simp only [Act.put, sA_, sZ_, sS_, i64_w, i32_w]
                      rfl
                     refine pu_ 40 66 HT_ (bs 43 2199023255551) rfl rfl ?_
                     refine one_ (i := 41) (N := some 5) (bs 43 4398046511103) rfl rfl (one_of HT_.out (by kernel_rfl)) (by decide) (fun K hK => ?_)
                     refine box_step ?hg (N := 5) ?hd (cs := #[.int .i64 0, .int .i64 0, .int .i64 0, .int .i64 0, .int .i64 0, .int .i64 0]) (t := 35) ?hr ?_; (case hd => rfl); (case hg => rfl); (case hr => first | (go_simp; done) | (go_simp; rfl))
                     intro gb242 hg w48 hbox hb
                     have n0_ := Aside0.mk (bb_ BK226.out hb)
                     have n1_ := Aside0.mk (below_step (bel_ HB.out) hb)
                     have n2_ := Aside0.mk (hbox)
                     have n3_ := Aside0.mk ((by rw [hg]; exact (below_size (bel_ HB.out)) : w.heap.size ≤ gb242))
                     have n4_ := Aside0.mk ((by rw [hg]; exact (below_size (bel_ HB.out)) : w.heap.size ≤ gb242))
                     have n5_ := Aside0.mk (nl_ BK226.out hg)
                     have n6_ := Aside0.mk (ng_ BK226.out hg)
                     clear BK226
                     clear HB
                     have BK226 := n0_
                     have HB := n1_
                     have BK242 := n2_
                     have GW242 := n3_
                     have GE242 := n4_
                     have NB226_242 := n5_
                     have NB242_226 := n6_
                     clear n0_ n1_ n2_ n3_ n4_ n5_ n6_
                     clear hb hbox hg
                     refine hK.out _ _ ⟨((HB.out.cell (World.block_lt_of_cell? w _ hw231_0)).trans hw231_0), ((HB.out.cell (World.block_lt_of_cell? w _ hw232_0)).trans hw232_0), ((HB.out.cell (World.block_lt_of_cell? w _ hw233_0)).trans hw233_0), ((HB.out.cell (World.block_lt_of_cell? w _ hw234_0)).trans hw234_0), ((HB.out.cell (World.block_lt_of_cell? w _ hw235_0)).trans hw235_0), ((HB.out.cell (World.block_lt_of_cell? w _ hw240_0)).trans hw240_0), ((HB.out.cell (World.block_lt_of_cell? w _ hw241_0)).trans hw241_0)⟩ (fun hHeld => ?_)
                     clear hK K
                     refine norm_ (a' := ?_) ?_ ?_
                     rotate_left
                     ·show Act.put _ (some 5) _ = _
                      simp only [Act.put, sA_, sZ_, sS_, i64_w, i32_w]
                      rfl
                     exact norm_ (by simp only [putAll, Act.put, sA_, sZ_, sS_]) (hCont (gb242) _ ⟨hHeld, (fb_ BK226.out), (fb_ BK242.out), GW242.out, GE242.out, NB226_242.out, NB242_226.out, (bel_ HB.out)⟩)
                    ·skip
                     refine box_step ?hg (N := 5) ?hd (cs := #[.int .i64 0, .int .i64 0, .int .i64 0, .int .i64 0, .int .i64 0, .int .i64 0]) (t := 35) ?hr ?_; (case hd => rfl); (case hg => rfl); (case hr => first | (go_simp; done) | (go_simp; rfl))
                     intro gb242 hg w48 hbox hb
                     have n0_ := Aside0.mk (bb_ BK226.out hb)
                     have n1_ := Aside0.mk (below_step (bel_ HB.out) hb)
                     have n2_ := Aside0.mk (hbox)
                     have n3_ := Aside0.mk ((by rw [hg]; exact (below_size (bel_ HB.out)) : w.heap.size ≤ gb242))
                     have n4_ := Aside0.mk ((by rw [hg]; exact (below_size (bel_ HB.out)) : w.heap.size ≤ gb242))
                     have n5_ := Aside0.mk (nl_ BK226.out hg)
                     have n6_ := Aside0.mk (ng_ BK226.out hg)
                     clear BK226
                     clear HB
                     have BK226 := n0_
                     have HB := n1_
                     have BK242 := n2_
                     have GW242 := n3_
                     have GE242 := n4_
                     have NB226_242 := n5_
                     have NB242_226 := n6_
                     clear n0_ n1_ n2_ n3_ n4_ n5_ n6_
                     clear hb hbox hg
                     refine hK.out _ _ ⟨((HB.out.cell (World.block_lt_of_cell? w _ hw231_0)).trans hw231_0), ((HB.out.cell (World.block_lt_of_cell? w _ hw232_0)).trans hw232_0), ((HB.out.cell (World.block_lt_of_cell? w _ hw233_0)).trans hw233_0), ((HB.out.cell (World.block_lt_of_cell? w _ hw234_0)).trans hw234_0), ((HB.out.cell (World.block_lt_of_cell? w _ hw235_0)).trans hw235_0), ((HB.out.cell (World.block_lt_of_cell? w _ hw240_0)).trans hw240_0), ((HB.out.cell (World.block_lt_of_cell? w _ hw241_0)).trans hw241_0)⟩ (fun hHeld => ?_)
                     clear hK K
                     refine norm_ (a' := ?_) ?_ ?_
                     rotate_left
                     ·show Act.put _ (some 5) _ = _
                      simp only [Act.put, sA_, sZ_, sS_, i64_w, i32_w]
                      rfl
                     refine one_ (i := 31) (N := some 57) (bs 43 3298534883327) rfl rfl (one_of HT_.out (by kernel_rfl)) (by decide) (fun K hK => ?_)
                     refine goes_ Try.func56 (by kernel_rfl) rfl #[.slice A47 (l0.drop 8).length (c0 - 8)] (by rfl) rfl rfl (by (try simp only [List.map_toArray, List.map_cons, List.map_nil]); first | done | (rw [show (l0.drop 8).length = (l0.length - 8) from List.length_drop] <;> rfl) | rfl | (simp only [List.length_drop, List.length_take]; rfl)) ?_
                     with_reducible refine (impl_number24.calls _ _ (l0.drop 8) t239 _ ?side1 ?side2 A16.out).mono ?_
                     (case side1 => repeat (first | exact (Kd.C_below HR238.out HB.out) | (with_reducible refine Kd.C_alloc ?_ _) | (with_reducible refine Kd.C_drewN ?_ _) | (with_reducible refine Kd.C_drew ?_)))
                     (case side2 => exact HC238.out)
                     rintro e w' ⟨rfl, ⟨nd, rfl⟩⟩
                     refine ⟨_, rfl, ?_⟩
                     refine hK.out _ _ ⟨((HB.out.cell (World.block_lt_of_cell? w _ hw231_0)).trans hw231_0), ((HB.out.cell (World.block_lt_of_cell? w _ hw232_0)).trans hw232_0), ((HB.out.cell (World.block_lt_of_cell? w _ hw233_0)).trans hw233_0), ((HB.out.cell (World.block_lt_of_cell? w _ hw234_0)).trans hw234_0), ((HB.out.cell (World.block_lt_of_cell? w _ hw235_0)).trans hw235_0), ((HB.out.cell (World.block_lt_of_cell? w _ hw240_0)).trans hw240_0), ((HB.out.cell (World.block_lt_of_cell? w _ hw241_0)).trans hw241_0)⟩ (fun hHeld => ?_)
                     clear hK K
                     refine norm_ (a' := ?_) ?_ ?_
                     rotate_left
                     ·show Act.put _ (some 57) _ = _
                      simp only [Act.put, sA_, sZ_, sS_, i64_w, i32_w]
                      rfl
                     refine pu_ 40 66 HT_ (bs 43 4398046511103) rfl rfl ?_
                     exact norm_ (by simp only [putAll, Act.put, sA_, sZ_, sS_]) (hCont (gb242) _ ⟨hHeld, (fb_ BK226.out), (fb_ BK242.out), GW242.out, GE242.out, NB226_242.out, NB242_226.out, (bel_ HB.out)⟩)
                   ·skip
                    refine box_step ?hg (N := 5) ?hd (cs := #[.int .i64 0, .int .i64 0, .int .i64 0, .int .i64 0, .int .i64 0, .int .i64 0]) (t := 35) ?hr ?_; (case hd => rfl); (case hg => rfl); (case hr => first | (go_simp; done) | (go_simp; rfl))
                    intro gb242 hg w48 hbox hb
                    have n0_ := Aside0.mk (bb_ BK226.out hb)
                    have n1_ := Aside0.mk (below_step (bel_ HB.out) hb)
                    have n2_ := Aside0.mk (hbox)
                    have n3_ := Aside0.mk ((by rw [hg]; exact (below_size (bel_ HB.out)) : w.heap.size ≤ gb242))
                    have n4_ := Aside0.mk ((by rw [hg]; exact (below_size (bel_ HB.out)) : w.heap.size ≤ gb242))
                    have n5_ := Aside0.mk (nl_ BK226.out hg)
                    have n6_ := Aside0.mk (ng_ BK226.out hg)
                    clear BK226
                    clear HB
                    have BK226 := n0_
                    have HB := n1_
                    have BK242 := n2_
                    have GW242 := n3_
                    have GE242 := n4_
                    have NB226_242 := n5_
                    have NB242_226 := n6_
                    clear n0_ n1_ n2_ n3_ n4_ n5_ n6_
                    clear hb hbox hg
                    refine hK.out _ _ ⟨((HB.out.cell (World.block_lt_of_cell? w _ hw231_0)).trans hw231_0), ((HB.out.cell (World.block_lt_of_cell? w _ hw232_0)).trans hw232_0), ((HB.out.cell (World.block_lt_of_cell? w _ hw233_0)).trans hw233_0), ((HB.out.cell (World.block_lt_of_cell? w _ hw234_0)).trans hw234_0), ((HB.out.cell (World.block_lt_of_cell? w _ hw235_0)).trans hw235_0), ((HB.out.cell (World.block_lt_of_cell? w _ hw240_0)).trans hw240_0), ((HB.out.cell (World.block_lt_of_cell? w _ hw241_0)).trans hw241_0)⟩ (fun hHeld => ?_)
                    clear hK K
                    refine norm_ (a' := ?_) ?_ ?_
                    rotate_left
                    ·show Act.put _ (some 5) _ = _
                     simp only [Act.put, sA_, sZ_, sS_, i64_w, i32_w]
                     rfl
                    refine one_ (i := 28) (N := some 54) (bs 43 3296387399679) rfl rfl (one_of HT_.out (by kernel_rfl)) (by decide) (fun K hK => ?_)
                    refine goes_ Try.func56 (by kernel_rfl) rfl #[.slice A46 (l0.drop 5).length (c0 - 5)] (by rfl) rfl rfl (by (try simp only [List.map_toArray, List.map_cons, List.map_nil]); first | done | (rw [show (l0.drop 5).length = (l0.length - 5) from List.length_drop] <;> rfl) | rfl | (simp only [List.length_drop, List.length_take]; rfl)) ?_
                    with_reducible refine (impl_number24.calls _ _ (l0.drop 5) t237 _ ?side1 ?side2 A14.out).mono ?_
                    (case side1 => repeat (first | exact (Kd.C_below HR236.out HB.out) | (with_reducible refine Kd.C_alloc ?_ _) | (with_reducible refine Kd.C_drewN ?_ _) | (with_reducible refine Kd.C_drew ?_)))
                    (case side2 => exact HC236.out)
                    rintro e w' ⟨rfl, ⟨nd, rfl⟩⟩
                    refine ⟨_, rfl, ?_⟩
                    refine hK.out _ _ ⟨((HB.out.cell (World.block_lt_of_cell? w _ hw231_0)).trans hw231_0), ((HB.out.cell (World.block_lt_of_cell? w _ hw232_0)).trans hw232_0), ((HB.out.cell (World.block_lt_of_cell? w _ hw233_0)).trans hw233_0), ((HB.out.cell (World.block_lt_of_cell? w _ hw234_0)).trans hw234_0), ((HB.out.cell (World.block_lt_of_cell? w _ hw235_0)).trans hw235_0), ((HB.out.cell (World.block_lt_of_cell? w _ hw240_0)).trans hw240_0), ((HB.out.cell (World.block_lt_of_cell? w _ hw241_0)).trans hw241_0)⟩ (fun hHeld => ?_)
                    clear hK K
                    refine norm_ (a' := ?_) ?_ ?_
                    rotate_left
                    ·show Act.put _ (some 54) _ = _
                     simp only [Act.put, sA_, sZ_, sS_, i64_w, i32_w]
                     rfl
                    refine one_ (i := 31) (N := some 57) (bs 43 3298534883327) rfl rfl (one_of HT_.out (by kernel_rfl)) (by decide) (fun K hK => ?_)
                    refine goes_ Try.func56 (by kernel_rfl) rfl #[.slice A47 (l0.drop 8).length (c0 - 8)] (by rfl) rfl rfl (by (try simp only [List.map_toArray, List.map_cons, List.map_nil]); first | done | (rw [show (l0.drop 8).length = (l0.length - 8) from List.length_drop] <;> rfl) | rfl | (simp only [List.length_drop, List.length_take]; rfl)) ?_
                    with_reducible refine (impl_number24.calls _ _ (l0.drop 8) t239 _ ?side1 ?side2 A16.out).mono ?_
                    (case side1 => repeat (first | exact (Kd.C_below HR238.out (bel_ HB.out)) | (with_reducible refine Kd.C_alloc ?_ _) | (with_reducible refine Kd.C_drewN ?_ _) | (with_reducible refine Kd.C_drew ?_)))
                    (case side2 => exact HC238.out)
                    rintro e w' ⟨rfl, ⟨nd, rfl⟩⟩
                    refine ⟨_, rfl, ?_⟩
                    refine hK.out _ _ ⟨((HB.out.cell (World.block_lt_of_cell? w _ hw231_0)).trans hw231_0), ((HB.out.cell (World.block_lt_of_cell? w _ hw232_0)).trans hw232_0), ((HB.out.cell (World.block_lt_of_cell? w _ hw233_0)).trans hw233_0), ((HB.out.cell (World.block_lt_of_cell? w _ hw234_0)).trans hw234_0), ((HB.out.cell (World.block_lt_of_cell? w _ hw235_0)).trans hw235_0), ((HB.out.cell (World.block_lt_of_cell? w _ hw240_0)).trans hw240_0), ((HB.out.cell (World.block_lt_of_cell? w _ hw241_0)).trans hw241_0)⟩ (fun hHeld => ?_)
                    clear hK K
                    refine norm_ (a' := ?_) ?_ ?_
                    rotate_left
                    ·show Act.put _ (some 57) _ = _
                     simp only [Act.put, sA_, sZ_, sS_, i64_w, i32_w]
                     rfl
                    refine pu_ 40 66 HT_ (bs 43 4398046511103) rfl rfl ?_
                    exact norm_ (by simp only [putAll, Act.put, sA_, sZ_, sS_]) (hCont (gb242) _ ⟨hHeld, (fb_ BK226.out), (fb_ BK242.out), GW242.out, GE242.out, NB226_242.out, NB242_226.out, (bel_ HB.out)⟩)
                  rintro gb242 w49 ⟨hS_, h0_, h1_, h2_, h3_, h4_, h5_, h6_⟩
                  have n0_ : Aside0 (w49.heap[gb226]? = some (.cells #[.int .i64 0, .int .i64 0, .int .i64 0, .int .i64 0, .int .i64 0, .int .i64 0] 35 (0, 0))) := ⟨h0_⟩
                  have n1_ : Aside0 (w49.heap[gb242]? = some (.cells #[.int .i64 0, .int .i64 0, .int .i64 0, .int .i64 0, .int .i64 0, .int .i64 0] 35 (0, 0))) := ⟨h1_⟩
                  have n2_ : Aside0 (w.heap.size ≤ gb242) := ⟨h2_⟩
                  have n3_ : Aside0 (w.heap.size ≤ gb242) := ⟨h3_⟩
                  have n4_ : Aside0 (gb226 ≠ gb242) := ⟨h4_⟩
                  have n5_ : Aside0 (gb242 ≠ gb226) := ⟨h5_⟩
                  have n6_ : Aside0 (Below w.heap.size w w49) := ⟨h6_⟩
                  clear BK226
                  clear HB
                  clear h0_ h1_ h2_ h3_ h4_ h5_ h6_
                  have BK226 := n0_
                  have BK242 := n1_
                  have GW242 := n2_
                  have GE242 := n3_
                  have NB226_242 := n4_
                  have NB242_226 := n5_
                  have HB := n6_
                  clear n0_ n1_ n2_ n3_ n4_ n5_ n6_
                  have hHeld : w49.cell? ad229 = some (.int .u8 (rd l0 0)) ∧ w49.cell? ⟨ad229.block, ad229.off + 1, none⟩ = some (.int .u8 (rd l0 1)) ∧ w49.cell? ⟨ad229.block, ad229.off + 2, none⟩ = some (.int .u8 (rd l0 2)) ∧ w49.cell? ⟨ad229.block, ad229.off + 3, none⟩ = some (.int .u8 (rd l0 3)) ∧ w49.cell? ⟨ad229.block, ad229.off + 4, none⟩ = some (.int .u8 (rd l0 4)) ∧ w49.cell? ⟨ad229.block, ad229.off + 11, none⟩ = some (.int .u8 (rd l0 11)) ∧ w49.cell? ⟨ad229.block, ad229.off + 12, none⟩ = some (.int .u8 (rd l0 12)) := hS_
                  refine norm_ (a' := ?_) ?_ ?_
                  rotate_left
                  ·simp only [putAll, Act.put, sA_, sZ_, sS_]
                   rfl
                  refine one_ (i := 42) (N := none) (bs 43 8796093022207) rfl rfl (one_of HT_.out (by kernel_rfl)) (by decide) (fun K hK => ?_)
                  have hs50 : w49.cell? ⟨gb242, 0, none⟩ = some (.int .i64 0) := (blk_cell BK242.out 0).trans rfl
                  have hfs50 := blk_frozen BK242.out 0
                  have hns50_0 := NB226_242.out
                  have hms50_0 := NB242_226.out
                  have hs51 : w49.cell? ⟨gb242, 1, none⟩ = some (.int .i64 0) := (blk_cell BK242.out 1).trans rfl
                  have hfs51 := blk_frozen BK242.out 1
                  have hns51_0 := NB226_242.out
                  have hms51_0 := NB242_226.out
                  have hs52 : w49.cell? ⟨gb242, 2, none⟩ = some (.int .i64 0) := (blk_cell BK242.out 2).trans rfl
                  have hfs52 := blk_frozen BK242.out 2
                  have hns52_0 := NB226_242.out
                  have hms52_0 := NB242_226.out
                  have hs53 : w49.cell? ⟨gb242, 3, none⟩ = some (.int .i64 0) := (blk_cell BK242.out 3).trans rfl
                  have hfs53 := blk_frozen BK242.out 3
                  have hns53_0 := NB226_242.out
                  have hms53_0 := NB242_226.out
                  have hs54 : w49.cell? ⟨gb242, 4, none⟩ = some (.int .i64 0) := (blk_cell BK242.out 4).trans rfl
                  have hfs54 := blk_frozen BK242.out 4
                  have hns54_0 := NB226_242.out
                  have hms54_0 := NB242_226.out
                  have hs55 : w49.cell? ⟨gb242, 5, none⟩ = some (.int .i64 0) := (blk_cell BK242.out 5).trans rfl
                  have hfs55 := blk_frozen BK242.out 5
                  have hns55_0 := NB226_242.out
                  have hms55_0 := NB242_226.out
                  refine skip_ (w1 := ?_) (by rfl) rfl ?_ ?_
                  rotate_left
                  ·go_simp
                   rfl
                  refine hK.out _ _ ⟨((cell_far (p := ⟨gb242, _, none⟩) (nf_ hw231_0 GW242.out) _).trans (((cell_far (p := ⟨gb242, _, none⟩) (nf_ hw231_0 GW242.out) _).trans (((cell_far (p := ⟨gb242, _, none⟩) (nf_ hw231_0 GW242.out) _).trans (((cell_far (p := ⟨gb242, _, none⟩) (nf_ hw231_0 GW242.out) _).trans (((cell_far (p := ⟨gb242, _, none⟩) (nf_ hw231_0 GW242.out) _).trans (((cell_far (p := ⟨gb242, _, none⟩) (nf_ hw231_0 GW242.out) _).trans (hHeld.1)))))))))))), ((cell_far (p := ⟨gb242, _, none⟩) (nf_ hw232_0 GW242.out) _).trans (((cell_far (p := ⟨gb242, _, none⟩) (nf_ hw232_0 GW242.out) _).trans (((cell_far (p := ⟨gb242, _, none⟩) (nf_ hw232_0 GW242.out) _).trans (((cell_far (p := ⟨gb242, _, none⟩) (nf_ hw232_0 GW242.out) _).trans (((cell_far (p := ⟨gb242, _, none⟩) (nf_ hw232_0 GW242.out) _).trans (((cell_far (p := ⟨gb242, _, none⟩) (nf_ hw232_0 GW242.out) _).trans (hHeld.2.1)))))))))))), ((cell_far (p := ⟨gb242, _, none⟩) (nf_ hw233_0 GW242.out) _).trans (((cell_far (p := ⟨gb242, _, none⟩) (nf_ hw233_0 GW242.out) _).trans (((cell_far (p := ⟨gb242, _, none⟩) (nf_ hw233_0 GW242.out) _).trans (((cell_far (p := ⟨gb242, _, none⟩) (nf_ hw233_0 GW242.out) _).trans (((cell_far (p := ⟨gb242, _, none⟩) (nf_ hw233_0 GW242.out) _).trans (((cell_far (p := ⟨gb242, _, none⟩) (nf_ hw233_0 GW242.out) _).trans (hHeld.2.2.1)))))))))))), ((cell_far (p := ⟨gb242, _, none⟩) (nf_ hw234_0 GW242.out) _).trans (((cell_far (p := ⟨gb242, _, none⟩) (nf_ hw234_0 GW242.out) _).trans (((cell_far (p := ⟨gb242, _, none⟩) (nf_ hw234_0 GW242.out) _).trans (((cell_far (p := ⟨gb242, _, none⟩) (nf_ hw234_0 GW242.out) _).trans (((cell_far (p := ⟨gb242, _, none⟩) (nf_ hw234_0 GW242.out) _).trans (((cell_far (p := ⟨gb242, _, none⟩) (nf_ hw234_0 GW242.out) _).trans (hHeld.2.2.2.1)))))))))))), ((cell_far (p := ⟨gb242, _, none⟩) (nf_ hw235_0 GW242.out) _).trans (((cell_far (p := ⟨gb242, _, none⟩) (nf_ hw235_0 GW242.out) _).trans (((cell_far (p := ⟨gb242, _, none⟩) (nf_ hw235_0 GW242.out) _).trans (((cell_far (p := ⟨gb242, _, none⟩) (nf_ hw235_0 GW242.out) _).trans (((cell_far (p := ⟨gb242, _, none⟩) (nf_ hw235_0 GW242.out) _).trans (((cell_far (p := ⟨gb242, _, none⟩) (nf_ hw235_0 GW242.out) _).trans (hHeld.2.2.2.2.1)))))))))))), ((cell_far (p := ⟨gb242, _, none⟩) (nf_ hw240_0 GW242.out) _).trans (((cell_far (p := ⟨gb242, _, none⟩) (nf_ hw240_0 GW242.out) _).trans (((cell_far (p := ⟨gb242, _, none⟩) (nf_ hw240_0 GW242.out) _).trans (((cell_far (p := ⟨gb242, _, none⟩) (nf_ hw240_0 GW242.out) _).trans (((cell_far (p := ⟨gb242, _, none⟩) (nf_ hw240_0 GW242.out) _).trans (((cell_far (p := ⟨gb242, _, none⟩) (nf_ hw240_0 GW242.out) _).trans (hHeld.2.2.2.2.2.1)))))))))))), ((cell_far (p := ⟨gb242, _, none⟩) (nf_ hw241_0 GW242.out) _).trans (((cell_far (p := ⟨gb242, _, none⟩) (nf_ hw241_0 GW242.out) _).trans (((cell_far (p := ⟨gb242, _, none⟩) (nf_ hw241_0 GW242.out) _).trans (((cell_far (p := ⟨gb242, _, none⟩) (nf_ hw241_0 GW242.out) _).trans (((cell_far (p := ⟨gb242, _, none⟩) (nf_ hw241_0 GW242.out) _).trans (((cell_far (p := ⟨gb242, _, none⟩) (nf_ hw241_0 GW242.out) _).trans (hHeld.2.2.2.2.2.2))))))))))))⟩ (fun hHeld => ?_)
                  clear hK K
                  refine done_ (done_of HT_.out (by kernel_rfl)) ?_
                  have p243 : 0 ≤ (13 : Int) := (by omega)
                  have q243 : 13 < (l0.length : Int) := of_decide_eq_true (by first | (with_reducible assumption) | assumption)
                  obtain ⟨ad243, e243, hx243_0⟩ := Kd.at_int HR0.out 13 p243 q243
                  obtain rfl : ad229 = ad243 := (by injection e243)
                  (try simp only [show (13 : Int).toNat = 13 from rfl, Nat.reduceMul, Nat.reduceEqDiff, Go.Addr.add, ↓reduceIte] at hx243_0)
                  have qi243 : (13 < l0.length) = True := eq_true (by omega)
                  (try rw [show ((13 : Int)).toNat = 13 from rfl] at hx243_0)
                  have hn243_0 : ad229.block ≠ gb242 := Nat.ne_of_lt (Nat.lt_of_lt_of_le (by have := World.block_lt_of_cell? _ _ hx243_0; first | rwa [add_block] at this | exact this) GW242.out)
                  have hn243_1 : ad229.block ≠ gb242 := Nat.ne_of_lt (Nat.lt_of_lt_of_le (by have := World.block_lt_of_cell? _ _ hx243_0; first | rwa [add_block] at this | exact this) GW242.out)
                  have hn243_2 : ad229.block ≠ gb242 := Nat.ne_of_lt (Nat.lt_of_lt_of_le (by have := World.block_lt_of_cell? _ _ hx243_0; first | rwa [add_block] at this | exact this) GW242.out)
                  have hn243_3 : ad229.block ≠ gb242 := Nat.ne_of_lt (Nat.lt_of_lt_of_le (by have := World.block_lt_of_cell? _ _ hx243_0; first | rwa [add_block] at this | exact this) GW242.out)
                  have hn243_4 : ad229.block ≠ gb242 := Nat.ne_of_lt (Nat.lt_of_lt_of_le (by have := World.block_lt_of_cell? _ _ hx243_0; first | rwa [add_block] at this | exact this) GW242.out)
                  have hn243_5 : ad229.block ≠ gb242 := Nat.ne_of_lt (Nat.lt_of_lt_of_le (by have := World.block_lt_of_cell? _ _ hx243_0; first | rwa [add_block] at this | exact this) GW242.out)
                  replace hx243_0 := (HB.out.cell (World.block_lt_of_cell? w _ hx243_0)).trans hx243_0
                  replace hx243_0 := (cell_far (p := ⟨gb242, 0, none⟩) (by first | (rw [add_block]; exact hn243_0) | (show (Addr.add _ _).block ≠ _; rw [add_block]; exact hn243_0) | exact hn243_0) (.int .i64 (wrap64 (rd l0 0)))).trans hx243_0
                  replace hx243_0 := (cell_far (p := ⟨gb242, 1, none⟩) (by first | (rw [add_block]; exact hn243_1) | (show (Addr.add _ _).block ≠ _; rw [add_block]; exact hn243_1) | exact hn243_1) (.int .i64 (Go.bits .or .i64 (Go.bits .or .i64 (Go.bits .or .i64 (wrap64 ((wrap64 (rd l0 1)) * 16777216)) (wrap64 ((wrap64 (rd l0 2)) * 65536))) (wrap64 ((wrap64 (rd l0 3)) * 256))) (wrap64 (rd l0 4))))).trans hx243_0
                  replace hx243_0 := (cell_far (p := ⟨gb242, 2, none⟩) (by first | (rw [add_block]; exact hn243_2) | (show (Addr.add _ _).block ≠ _; rw [add_block]; exact hn243_2) | exact hn243_2) (.int .i64 t237)).trans hx243_0
                  replace hx243_0 := (cell_far (p := ⟨gb242, 3, none⟩) (by first | (rw [add_block]; exact hn243_3) | (show (Addr.add _ _).block ≠ _; rw [add_block]; exact hn243_3) | exact hn243_3) (.int .i64 t239)).trans hx243_0
                  replace hx243_0 := (cell_far (p := ⟨gb242, 4, none⟩) (by first | (rw [add_block]; exact hn243_4) | (show (Addr.add _ _).block ≠ _; rw [add_block]; exact hn243_4) | exact hn243_4) (.int .i64 (wrap64 (rd l0 11)))).trans hx243_0
                  replace hx243_0 := (cell_far (p := ⟨gb242, 5, none⟩) (by first | (rw [add_block]; exact hn243_5) | (show (Addr.add _ _).block ≠ _; rw [add_block]; exact hn243_5) | exact hn243_5) (.int .i64 (wrap64 (rd l0 12)))).trans hx243_0
                  clear hn243_0
                  clear hn243_1
                  clear hn243_2
                  clear hn243_3
                  clear hn243_4
                  clear hn243_5
                  replace p243 := eq_true p243
                  replace q243 := eq_true q243
                  have hnb56 := NB242_226.out
                  have hnc56 := NB226_242.out
                  have hcz57_0 : w49.cell? ⟨gb242, 0, none⟩ = some (.int .i64 0) := (blk_cell BK242.out 0).trans rfl
                  have hcz57_1 : w49.cell? ⟨gb242, 1, none⟩ = some (.int .i64 0) := (blk_cell BK242.out 1).trans rfl
                  have hcz57_2 : w49.cell? ⟨gb242, 2, none⟩ = some (.int .i64 0) := (blk_cell BK242.out 2).trans rfl
                  have hcz57_3 : w49.cell? ⟨gb242, 3, none⟩ = some (.int .i64 0) := (blk_cell BK242.out 3).trans rfl
                  have hcz57_4 : w49.cell? ⟨gb242, 4, none⟩ = some (.int .i64 0) := (blk_cell BK242.out 4).trans rfl
                  have hcz57_5 : w49.cell? ⟨gb242, 5, none⟩ = some (.int .i64 0) := (blk_cell BK242.out 5).trans rfl
                  have hfz57_0 := blk_frozen BK242.out 0
                  have hfz57_1 := blk_frozen BK242.out 1
                  have hfz57_2 := blk_frozen BK242.out 2
                  have hfz57_3 := blk_frozen BK242.out 3
                  have hfz57_4 := blk_frozen BK242.out 4
                  have hfz57_5 := blk_frozen BK242.out 5
                  try go_wp2_with (first | (go_at_call 20; (with_reducible refine (impl_ReportOk.calls (wrap64 (rd l0 0)) (Go.bits .or .i64 (Go.bits .or .i64 (Go.bits .or .i64 (wrap64 ((wrap64 (rd l0 1)) * 16777216)) (wrap64 ((wrap64 (rd l0 2)) * 65536))) (wrap64 ((wrap64 (rd l0 3)) * 256))) (wrap64 (rd l0 4))) t237 t239 (wrap64 (rd l0 11)) (wrap64 (rd l0 12)) false _ A21.out).mono ?_); rintro e w58 ⟨rfl, hb⟩; have n0_ := Aside0.mk (ba_ BK226.out hb); have n1_ := Aside0.mk (blk_below (g := gb242) (o := .cells #[.int .i64 (wrap64 (rd l0 0)), .int .i64 (Go.bits .or .i64 (Go.bits .or .i64 (Go.bits .or .i64 (wrap64 ((wrap64 (rd l0 1)) * 16777216)) (wrap64 ((wrap64 (rd l0 2)) * 65536))) (wrap64 ((wrap64 (rd l0 3)) * 256))) (wrap64 (rd l0 4))), .int .i64 t237, .int .i64 t239, .int .i64 (wrap64 (rd l0 11)), .int .i64 (wrap64 (rd l0 12))] 35 (0, 0)) (by refine rp_ ?_; refine blk_put (cs := #[.int .i64 (wrap64 (rd l0 0)), .int .i64 (Go.bits .or .i64 (Go.bits .or .i64 (Go.bits .or .i64 (wrap64 ((wrap64 (rd l0 1)) * 16777216)) (wrap64 ((wrap64 (rd l0 2)) * 65536))) (wrap64 ((wrap64 (rd l0 3)) * 256))) (wrap64 (rd l0 4))), .int .i64 t237, .int .i64 t239, .int .i64 (wrap64 (rd l0 11)), .int .i64 0]) ?_ 5 _ rfl; refine rp_ ?_; refine blk_put (cs := #[.int .i64 (wrap64 (rd l0 0)), .int .i64 (Go.bits .or .i64 (Go.bits .or .i64 (Go.bits .or .i64 (wrap64 ((wrap64 (rd l0 1)) * 16777216)) (wrap64 ((wrap64 (rd l0 2)) * 65536))) (wrap64 ((wrap64 (rd l0 3)) * 256))) (wrap64 (rd l0 4))), .int .i64 t237, .int .i64 t239, .int .i64 0, .int .i64 0]) ?_ 4 _ rfl; refine rp_ ?_; refine blk_put (cs := #[.int .i64 (wrap64 (rd l0 0)), .int .i64 (Go.bits .or .i64 (Go.bits .or .i64 (Go.bits .or .i64 (wrap64 ((wrap64 (rd l0 1)) * 16777216)) (wrap64 ((wrap64 (rd l0 2)) * 65536))) (wrap64 ((wrap64 (rd l0 3)) * 256))) (wrap64 (rd l0 4))), .int .i64 t237, .int .i64 0, .int .i64 0, .int .i64 0]) ?_ 3 _ rfl; refine rp_ ?_; refine blk_put (cs := #[.int .i64 (wrap64 (rd l0 0)), .int .i64 (Go.bits .or .i64 (Go.bits .or .i64 (Go.bits .or .i64 (wrap64 ((wrap64 (rd l0 1)) * 16777216)) (wrap64 ((wrap64 (rd l0 2)) * 65536))) (wrap64 ((wrap64 (rd l0 3)) * 256))) (wrap64 (rd l0 4))), .int .i64 0, .int .i64 0, .int .i64 0, .int .i64 0]) ?_ 2 _ rfl; refine rp_ ?_; refine blk_put (cs := #[.int .i64 (wrap64 (rd l0 0)), .int .i64 0, .int .i64 0, .int .i64 0, .int .i64 0, .int .i64 0]) ?_ 1 _ rfl; refine rp_ ?_; refine blk_put (cs := #[.int .i64 0, .int .i64 0, .int .i64 0, .int .i64 0, .int .i64 0, .int .i64 0]) ?_ 0 _ rfl; refine rp_ ?_; exact BK242.out) hb); have n2_ := Aside0.mk (below_step (bel_ HB.out) hb); clear BK226; clear BK242; clear HB; have BK226 := n0_; have BK242 := n1_; have HB := n2_; clear n0_ n1_ n2_; (try clear hb); (try clear hb2); (try clear hk); (try clear hi); have hcz59_0 : w58.cell? ⟨gb226, 0, none⟩ = some (.int .i64 0) := (blk_cell BK226.out 0).trans rfl; have hcz59_1 : w58.cell? ⟨gb226, 1, none⟩ = some (.int .i64 0) := (blk_cell BK226.out 1).trans rfl; have hcz59_2 : w58.cell? ⟨gb226, 2, none⟩ = some (.int .i64 0) := (blk_cell BK226.out 2).trans rfl; have hcz59_3 : w58.cell? ⟨gb226, 3, none⟩ = some (.int .i64 0) := (blk_cell BK226.out 3).trans rfl; have hcz59_4 : w58.cell? ⟨gb226, 4, none⟩ = some (.int .i64 0) := (blk_cell BK226.out 4).trans rfl; have hcz59_5 : w58.cell? ⟨gb226, 5, none⟩ = some (.int .i64 0) := (blk_cell BK226.out 5).trans rfl; have hfz59_0 := blk_frozen BK226.out 0; have hfz59_1 := blk_frozen BK226.out 1; have hfz59_2 := blk_frozen BK226.out 2; have hfz59_3 := blk_frozen BK226.out 3; have hfz59_4 := blk_frozen BK226.out 4; have hfz59_5 := blk_frozen BK226.out 5))
                  refine bodyPost_ret (results_ct rfl _ _ gb226 35 #[.int .i64 0, .int .i64 0, .int .i64 0, .int .i64 0, .int .i64 0, .int .i64 0] (0, 0) _ rfl (by refine rp_ ?_; refine blk_put (cs := #[.int .i64 0, .int .i64 0, .int .i64 0, .int .i64 0, .int .i64 0, .int .i64 0]) ?_ 5 _ rfl; refine rp_ ?_; refine blk_put (cs := #[.int .i64 0, .int .i64 0, .int .i64 0, .int .i64 0, .int .i64 0, .int .i64 0]) ?_ 4 _ rfl; refine rp_ ?_; refine blk_put (cs := #[.int .i64 0, .int .i64 0, .int .i64 0, .int .i64 0, .int .i64 0, .int .i64 0]) ?_ 3 _ rfl; refine rp_ ?_; refine blk_put (cs := #[.int .i64 0, .int .i64 0, .int .i64 0, .int .i64 0, .int .i64 0, .int .i64 0]) ?_ 2 _ rfl; refine rp_ ?_; refine blk_put (cs := #[.int .i64 0, .int .i64 0, .int .i64 0, .int .i64 0, .int .i64 0, .int .i64 0]) ?_ 1 _ rfl; refine rp_ ?_; refine blk_put (cs := #[.int .i64 0, .int .i64 0, .int .i64 0, .int .i64 0, .int .i64 0, .int .i64 0]) ?_ 0 _ rfl; refine rp_ ?_; exact BK226.out) Try.underlying35 rfl (by kernel_rfl)) rfl ?_
                  exact ⟨by first | rfl | (simp [errW_none, errW_some] <;> rfl) | (simp [*, errW_none, errW_some] <;> rfl), bel_ HB.out⟩
                ·rw [if_neg c20] at H
                 have c20b0 : ((rd l0 13) == 0) = false := beq_eq_false_iff_ne.mpr c20
                 have c20b1 : ((rd l0 13) != 0) = true := bne_iff_ne.mpr c20
                 simp only [Option.some.injEq, Prod.mk.injEq] at H
                 obtain ⟨rfl, rfl, rfl, rfl, rfl, rfl, rfl⟩ := H
                 go_enter Try.func21, Try.ntmps21
                 try go_wp2_with (first | ((with_reducible refine gate_dst (N := 2) rfl ?_); refine box_event ?hg (N := 2) ?hd (cs := #[.int .i64 0, .int .i64 0, .int .i64 0, .int .i64 0, .int .i64 0, .int .i64 0]) (t := 35) ?hr ?_; (case hd => rfl); (case hg => rfl); (case hr => first | (go_simp; done) | (go_simp; rfl)); intro gb226 hg w60 hbox hb; have n0_ := Aside0.mk (below_step (bel_ HB.out) hb); have n1_ := Aside0.mk (hbox); have n2_ := Aside0.mk ((by rw [hg]; exact (below_size (bel_ HB.out)) : w.heap.size ≤ gb226)); have n3_ := Aside0.mk ((by rw [hg]; exact (below_size (bel_ HB.out)) : w.heap.size ≤ gb226)); clear HB; have HB := n0_; have BK226 := n1_; have GW226 := n2_; have GE226 := n3_; clear n0_ n1_ n2_ n3_; clear hb hbox hg))
                 have n0_ := Aside0.mk (blk_drew BK226.out)
                 have n1_ := Aside0.mk (below_drew1 HB.out)
                 clear BK226
                 clear HB
                 have BK226 := n0_
                 have HB := n1_
                 clear n0_ n1_
                 obtain ⟨i062, hi062, _, hsz62, _⟩ := info_parts info5
                 obtain ⟨hcut62, hA62, hC62⟩ := print_take_of (P := Try.prog) (Value.int .u8) 0 22 5 .i64 Try.underlying22 hi062 hsz62 A0 c0 l0 14 (by omega) (of_decide_eq_true (by first | (with_reducible assumption) | assumption)) HC0.out
                 have HR227 := Aside0.mk (Kd.C_of_reads (h1 := fun _ => rfl) (hA62 _ (Kd.reads_of_C HR0.out)))
                 have HC227 := Aside0.mk hC62
                 clear hA62 hC62 hi062 hsz62
                 have p229 : 0 ≤ (14 : Int) := (by omega)
                 have q229 : 14 < (l0.length : Int) := of_decide_eq_true (by first | (with_reducible assumption) | assumption)
                 obtain ⟨ad229, e229, hx229_0⟩ := Kd.at_int HR0.out 14 p229 q229
                 have hw229_0 := hx229_0
                 (try rw [show ((14 : Int)).toNat = 14 from rfl] at hw229_0)
                 (try rw [show 14 * 1 = 14 from rfl] at hw229_0)
                 (try simp only [Nat.reduceMul, Nat.reduceEqDiff, Go.Addr.add, ↓reduceIte] at hw229_0)
                 cases e229
                 (try simp only [show (14 : Int).toNat = 14 from rfl, Nat.reduceMul, Nat.reduceEqDiff, Go.Addr.add, ↓reduceIte] at hx229_0)
                 have qi229 : (14 < l0.length) = True := eq_true (by omega)
                 (try rw [show ((14 : Int)).toNat = 14 from rfl] at hx229_0)
                 replace hx229_0 := (HB.out.cell (World.block_lt_of_cell? w _ hx229_0)).trans hx229_0
                 replace p229 := eq_true p229
                 replace q229 := eq_true q229
                 have p230 : 0 ≤ (15 : Int) := (by omega)
                 have q230 : 15 < (l0.length : Int) := of_decide_eq_true (by first | (with_reducible assumption) | assumption)
                 obtain ⟨ad230, e230, hx230_0⟩ := Kd.at_int HR0.out 15 p230 q230
                 have hw230_0 := hx230_0
                 (try rw [show ((15 : Int)).toNat = 15 from rfl] at hw230_0)
                 (try rw [show 15 * 1 = 15 from rfl] at hw230_0)
                 (try simp only [Nat.reduceMul, Nat.reduceEqDiff, Go.Addr.add, ↓reduceIte] at hw230_0)
                 obtain rfl : ad229 = ad230 := (by injection e230)
                 (try simp only [show (15 : Int).toNat = 15 from rfl, Nat.reduceMul, Nat.reduceEqDiff, Go.Addr.add, ↓reduceIte] at hx230_0)
                 have qi230 : (15 < l0.length) = True := eq_true (by omega)
                 (try rw [show ((15 : Int)).toNat = 15 from rfl] at hx230_0)
                 replace hx230_0 := (HB.out.cell (World.block_lt_of_cell? w _ hx230_0)).trans hx230_0
                 replace p230 := eq_true p230
                 replace q230 := eq_true q230
                 refine start_ (n := 14) (S := fun w' => w'.cell? ⟨ad229.block, ad229.off + 14, none⟩ = some (.int .u8 (rd l0 14)) ∧ w'.cell? ⟨ad229.block, ad229.off + 15, none⟩ = some (.int .u8 (rd l0 15))) (ds := []) (bs 14 0) (by kernel_rfl) rfl rfl ⟨((HB.out.cell (World.block_lt_of_cell? w _ hw229_0)).trans hw229_0), ((HB.out.cell (World.block_lt_of_cell? w _ hw230_0)).trans hw230_0)⟩ (fun hHeld => ?_); refine with_tabW impl_ReadReport.tab4 impl_ReadReport.bits4 (fun HT_ HW_ => ?_)
                 generalize w60.drew = w61 at BK226 HB HR227 hx229_0 hx230_0 hHeld ⊢
                 refine pu_ 0 11 HT_ (bs 14 1) rfl rfl ?_
                 refine pu_ 1 12 HT_ (bs 14 3) rfl rfl ?_
                 refine pu_ 3 14 HT_ (bs 14 11) rfl rfl ?_
                 refine pu_ 4 15 HT_ (bs 14 27) rfl rfl ?_
                 refine pu_ 8 19 HT_ (bs 14 283) rfl rfl ?_
                 refine pu_ 9 20 HT_ (bs 14 795) rfl rfl ?_
                 refine take_ (i := 5) (N := some 16) (v := ?_) (a' := ?_) (bs 14 827) rfl rfl (take_ofW HT_.out HW_.out (by kernel_rfl)) (fun _ _ _ h => h) (Or.inl ⟨by rfl, ?_⟩) hHeld ?_ ?_
                 rotate_left
                 ·rintro w' ⟨s0, s1⟩
                  go_simp
                  with_reducible rfl
                 rotate_left
                 ·simp only [Act.put, sA_, sZ_, sS_, i64_w, i32_w]
                  rfl
                 refine pu_ 6 17 HT_ (bs 14 891) rfl rfl ?_
                 refine pu_ 7 18 HT_ (bs 14 1019) rfl rfl ?_
                 refine take_ (i := 10) (N := some 21) (v := ?_) (a' := ?_) (bs 14 2043) rfl rfl (take_ofW HT_.out HW_.out (by kernel_rfl)) (fun _ _ _ h => h) (Or.inl ⟨by rfl, ?_⟩) hHeld ?_ ?_
                 rotate_left
                 ·rintro w' ⟨s0, s1⟩
                  go_simp
                  with_reducible rfl
                 rotate_left
                 ·simp only [Act.put, sA_, sZ_, sS_, i64_w, i32_w]
                  rfl
                 refine pu_ 11 22 HT_ (bs 14 4091) rfl rfl ?_
                 refine pu_ 12 23 HT_ (bs 14 8187) rfl rfl ?_
                 refine one_ (i := 2) (N := some 13) (bs 14 8191) rfl rfl (one_of HT_.out (by kernel_rfl)) (by decide) (fun K hK => ?_)
                 refine goes_ Try.func52 (by kernel_rfl) rfl #[.slice (some ad229) (l0.take 14).length c0] (by rfl) rfl rfl (by (try simp only [List.map_toArray, List.map_cons, List.map_nil]); first | done | (rw [show (l0.take 14).length = 14 from (by rw [List.length_take]; have h_ : (14 : Int) ≤ (l0.length : Int) := of_decide_eq_true (by first | (with_reducible assumption) | assumption); omega)] <;> rfl) | rfl | (simp only [List.length_drop, List.length_take]; rfl)) ?_
                 with_reducible refine (impl_frameCheck.calls k _ _ (l0.take 14) t228 _ ?side1 ?side2 A4.out).mono ?_
                 (case side1 => repeat (first | exact (Kd.C_below HR227.out HB.out) | (with_reducible refine Kd.C_alloc ?_ _) | (with_reducible refine Kd.C_drewN ?_ _) | (with_reducible refine Kd.C_drew ?_)))
                 (case side2 => exact HC227.out)
                 rintro e w' ⟨rfl, ⟨nd, rfl⟩⟩
                 refine ⟨_, rfl, ?_⟩
                 refine hK.out _ _ ⟨((HB.out.cell (World.block_lt_of_cell? w _ hw229_0)).trans hw229_0), ((HB.out.cell (World.block_lt_of_cell? w _ hw230_0)).trans hw230_0)⟩ (fun hHeld => ?_)
                 clear hK K
                 refine norm_ (a' := ?_) ?_ ?_
                 rotate_left
                 ·show Act.put _ (some 13) _ = _
                  simp only [Act.put, sA_, sZ_, sS_, i64_w, i32_w]
                  rfl
                 refine pu_ 13 24 HT_ (bs 14 16383) rfl rfl ?_
                 refine done_ (done_of HT_.out (by kernel_rfl)) ?_
                 try go_wp2
                 (try ((first | generalize hq_ : World.drewN w61 _ = w61 | (rw [drewN_self w61]; generalize hq_ : World.drewN w61 _ = w61)); have n0_ : Aside0 (w61.heap[gb226]? = some (.cells #[.int .i64 0, .int .i64 0, .int .i64 0, .int .i64 0, .int .i64 0, .int .i64 0] 35 (0, 0))) := ⟨by rw [← hq_]; exact (fb_ BK226.out)⟩; have n1_ : Aside0 (Below w.heap.size w w61) := ⟨by rw [← hq_]; exact (bel_ HB.out)⟩; clear BK226 HB hq_; have BK226 := n0_; have HB := n1_; clear n0_ n1_))
                 have n0_ := Aside0.mk (blk_drew BK226.out)
                 have n1_ := Aside0.mk (below_drew1 HB.out)
                 clear BK226
                 clear HB
                 have BK226 := n0_
                 have HB := n1_
                 clear n0_ n1_
                 have p231 : 0 ≤ (0 : Int) := (by omega)
                 have q231 : 0 < (l0.length : Int) := of_decide_eq_true (by first | (with_reducible assumption) | assumption)
                 obtain ⟨ad231, e231, hx231_0⟩ := Kd.at_int HR0.out 0 p231 q231
                 have hw231_0 := hx231_0
                 (try rw [show ((0 : Int)).toNat = 0 from rfl] at hw231_0)
                 (try rw [show 0 * 1 = 0 from rfl] at hw231_0)
                 (try rw [Addr.add_zero'] at hw231_0)
                 obtain rfl : ad229 = ad231 := (by injection e231)
                 have qi231 : (0 < l0.length) = True := eq_true (by omega)
                 (try rw [show ((0 : Int)).toNat = 0 from rfl] at hx231_0)
                 (try rw [Addr.add_zero'] at hx231_0)
                 replace hx231_0 := (HB.out.cell (World.block_lt_of_cell? w _ hx231_0)).trans hx231_0
                 replace p231 := eq_true p231
                 replace q231 := eq_true q231
                 have p232 : 0 ≤ (1 : Int) := (by omega)
                 have q232 : 1 < (l0.length : Int) := of_decide_eq_true (by first | (with_reducible assumption) | assumption)
                 obtain ⟨ad232, e232, hx232_0⟩ := Kd.at_int HR0.out 1 p232 q232
                 have hw232_0 := hx232_0
                 (try rw [show ((1 : Int)).toNat = 1 from rfl] at hw232_0)
                 (try rw [show 1 * 1 = 1 from rfl] at hw232_0)
                 (try simp only [Nat.reduceMul, Nat.reduceEqDiff, Go.Addr.add, ↓reduceIte] at hw232_0)
                 obtain rfl : ad229 = ad232 := (by injection e232)
                 (try simp only [show (1 : Int).toNat = 1 from rfl, Nat.reduceMul, Nat.reduceEqDiff, Go.Addr.add, ↓reduceIte] at hx232_0)
                 have qi232 : (1 < l0.length) = True := eq_true (by omega)
                 (try rw [show ((1 : Int)).toNat = 1 from rfl] at hx232_0)
                 replace hx232_0 := (HB.out.cell (World.block_lt_of_cell? w _ hx232_0)).trans hx232_0
                 replace p232 := eq_true p232
                 replace q232 := eq_true q232
                 have p233 : 0 ≤ (2 : Int) := (by omega)
                 have q233 : 2 < (l0.length : Int) := of_decide_eq_true (by first | (with_reducible assumption) | assumption)
                 obtain ⟨ad233, e233, hx233_0⟩ := Kd.at_int HR0.out 2 p233 q233
                 have hw233_0 := hx233_0
                 (try rw [show ((2 : Int)).toNat = 2 from rfl] at hw233_0)
                 (try rw [show 2 * 1 = 2 from rfl] at hw233_0)
                 (try simp only [Nat.reduceMul, Nat.reduceEqDiff, Go.Addr.add, ↓reduceIte] at hw233_0)
                 obtain rfl : ad229 = ad233 := (by injection e233)
                 (try simp only [show (2 : Int).toNat = 2 from rfl, Nat.reduceMul, Nat.reduceEqDiff, Go.Addr.add, ↓reduceIte] at hx233_0)
                 have qi233 : (2 < l0.length) = True := eq_true (by omega)
                 (try rw [show ((2 : Int)).toNat = 2 from rfl] at hx233_0)
                 replace hx233_0 := (HB.out.cell (World.block_lt_of_cell? w _ hx233_0)).trans hx233_0
                 replace p233 := eq_true p233
                 replace q233 := eq_true q233
                 have p234 : 0 ≤ (3 : Int) := (by omega)
                 have q234 : 3 < (l0.length : Int) := of_decide_eq_true (by first | (with_reducible assumption) | assumption)
                 obtain ⟨ad234, e234, hx234_0⟩ := Kd.at_int HR0.out 3 p234 q234
                 have hw234_0 := hx234_0
                 (try rw [show ((3 : Int)).toNat = 3 from rfl] at hw234_0)
                 (try rw [show 3 * 1 = 3 from rfl] at hw234_0)
                 (try simp only [Nat.reduceMul, Nat.reduceEqDiff, Go.Addr.add, ↓reduceIte] at hw234_0)
                 obtain rfl : ad229 = ad234 := (by injection e234)
                 (try simp only [show (3 : Int).toNat = 3 from rfl, Nat.reduceMul, Nat.reduceEqDiff, Go.Addr.add, ↓reduceIte] at hx234_0)
                 have qi234 : (3 < l0.length) = True := eq_true (by omega)
                 (try rw [show ((3 : Int)).toNat = 3 from rfl] at hx234_0)
                 replace hx234_0 := (HB.out.cell (World.block_lt_of_cell? w _ hx234_0)).trans hx234_0
                 replace p234 := eq_true p234
                 replace q234 := eq_true q234
                 have p235 : 0 ≤ (4 : Int) := (by omega)
                 have q235 : 4 < (l0.length : Int) := of_decide_eq_true (by first | (with_reducible assumption) | assumption)
                 obtain ⟨ad235, e235, hx235_0⟩ := Kd.at_int HR0.out 4 p235 q235
                 have hw235_0 := hx235_0
                 (try rw [show ((4 : Int)).toNat = 4 from rfl] at hw235_0)
                 (try rw [show 4 * 1 = 4 from rfl] at hw235_0)
                 (try simp only [Nat.reduceMul, Nat.reduceEqDiff, Go.Addr.add, ↓reduceIte] at hw235_0)
                 obtain rfl : ad229 = ad235 := (by injection e235)
                 (try simp only [show (4 : Int).toNat = 4 from rfl, Nat.reduceMul, Nat.reduceEqDiff, Go.Addr.add, ↓reduceIte] at hx235_0)
                 have qi235 : (4 < l0.length) = True := eq_true (by omega)
                 (try rw [show ((4 : Int)).toNat = 4 from rfl] at hx235_0)
                 replace hx235_0 := (HB.out.cell (World.block_lt_of_cell? w _ hx235_0)).trans hx235_0
                 replace p235 := eq_true p235
                 replace q235 := eq_true q235
                 obtain ⟨i064, hi064, _, hsz64, _⟩ := info_parts info5
                 obtain ⟨A64, hcut64, hA64, hC64⟩ := print_drop_of (P := Try.prog) (Value.int .u8) 0 22 5 .i64 Try.underlying22 hi064 hsz64 (some ad229) c0 l0 5 (by omega) (of_decide_eq_true (by first | (with_reducible assumption) | assumption)) HC0.out
                 have HR236 := Aside0.mk (Kd.C_of_reads (h1 := fun _ => rfl) (hA64 _ (Kd.reads_of_C HR0.out)))
                 have HC236 := Aside0.mk hC64
                 clear hA64 hC64 hi064 hsz64
                 obtain ⟨i065, hi065, _, hsz65, _⟩ := info_parts info5
                 obtain ⟨A65, hcut65, hA65, hC65⟩ := print_drop_of (P := Try.prog) (Value.int .u8) 0 22 5 .i64 Try.underlying22 hi065 hsz65 (some ad229) c0 l0 8 (by omega) (of_decide_eq_true (by first | (with_reducible assumption) | assumption)) HC0.out
                 have HR238 := Aside0.mk (Kd.C_of_reads (h1 := fun _ => rfl) (hA65 _ (Kd.reads_of_C HR0.out)))
                 have HC238 := Aside0.mk hC65
                 clear hA65 hC65 hi065 hsz65
                 have p240 : 0 ≤ (11 : Int) := (by omega)
                 have q240 : 11 < (l0.length : Int) := of_decide_eq_true (by first | (with_reducible assumption) | assumption)
                 obtain ⟨ad240, e240, hx240_0⟩ := Kd.at_int HR0.out 11 p240 q240
                 have hw240_0 := hx240_0
                 (try rw [show ((11 : Int)).toNat = 11 from rfl] at hw240_0)
                 (try rw [show 11 * 1 = 11 from rfl] at hw240_0)
                 (try simp only [Nat.reduceMul, Nat.reduceEqDiff, Go.Addr.add, ↓reduceIte] at hw240_0)
                 obtain rfl : ad229 = ad240 := (by injection e240)
                 (try simp only [show (11 : Int).toNat = 11 from rfl, Nat.reduceMul, Nat.reduceEqDiff, Go.Addr.add, ↓reduceIte] at hx240_0)
                 have qi240 : (11 < l0.length) = True := eq_true (by omega)
                 (try rw [show ((11 : Int)).toNat = 11 from rfl] at hx240_0)
                 replace hx240_0 := (HB.out.cell (World.block_lt_of_cell? w _ hx240_0)).trans hx240_0
                 replace p240 := eq_true p240
                 replace q240 := eq_true q240
                 have p241 : 0 ≤ (12 : Int) := (by omega)
                 have q241 : 12 < (l0.length : Int) := of_decide_eq_true (by first | (with_reducible assumption) | assumption)
                 obtain ⟨ad241, e241, hx241_0⟩ := Kd.at_int HR0.out 12 p241 q241
                 have hw241_0 := hx241_0
                 (try rw [show ((12 : Int)).toNat = 12 from rfl] at hw241_0)
                 (try rw [show 12 * 1 = 12 from rfl] at hw241_0)
                 (try simp only [Nat.reduceMul, Nat.reduceEqDiff, Go.Addr.add, ↓reduceIte] at hw241_0)
                 obtain rfl : ad229 = ad241 := (by injection e241)
                 (try simp only [show (12 : Int).toNat = 12 from rfl, Nat.reduceMul, Nat.reduceEqDiff, Go.Addr.add, ↓reduceIte] at hx241_0)
                 have qi241 : (12 < l0.length) = True := eq_true (by omega)
                 (try rw [show ((12 : Int)).toNat = 12 from rfl] at hx241_0)
                 replace hx241_0 := (HB.out.cell (World.block_lt_of_cell? w _ hx241_0)).trans hx241_0
                 replace p241 := eq_true p241
                 replace q241 := eq_true q241
                 refine start_ (n := 43) (S := fun w' => w'.cell? ad229 = some (.int .u8 (rd l0 0)) ∧ w'.cell? ⟨ad229.block, ad229.off + 1, none⟩ = some (.int .u8 (rd l0 1)) ∧ w'.cell? ⟨ad229.block, ad229.off + 2, none⟩ = some (.int .u8 (rd l0 2)) ∧ w'.cell? ⟨ad229.block, ad229.off + 3, none⟩ = some (.int .u8 (rd l0 3)) ∧ w'.cell? ⟨ad229.block, ad229.off + 4, none⟩ = some (.int .u8 (rd l0 4)) ∧ w'.cell? ⟨ad229.block, ad229.off + 11, none⟩ = some (.int .u8 (rd l0 11)) ∧ w'.cell? ⟨ad229.block, ad229.off + 12, none⟩ = some (.int .u8 (rd l0 12))) (ds := []) (bs 43 0) (by kernel_rfl) rfl rfl ⟨((HB.out.cell (World.block_lt_of_cell? w _ hw231_0)).trans hw231_0), ((HB.out.cell (World.block_lt_of_cell? w _ hw232_0)).trans hw232_0), ((HB.out.cell (World.block_lt_of_cell? w _ hw233_0)).trans hw233_0), ((HB.out.cell (World.block_lt_of_cell? w _ hw234_0)).trans hw234_0), ((HB.out.cell (World.block_lt_of_cell? w _ hw235_0)).trans hw235_0), ((HB.out.cell (World.block_lt_of_cell? w _ hw240_0)).trans hw240_0), ((HB.out.cell (World.block_lt_of_cell? w _ hw241_0)).trans hw241_0)⟩ (fun hHeld => ?_); refine with_tabW impl_ReadReport.tab6 impl_ReadReport.bits6 (fun HT_ HW_ => ?_)
                 generalize w61.drew = w63 at BK226 HB HR236 HR238 hx231_0 hx232_0 hx233_0 hx234_0 hx235_0 hx240_0 hx241_0 hHeld ⊢
                 refine pu_ 0 26 HT_ (bs 43 1) rfl rfl ?_
                 refine pu_ 1 27 HT_ (bs 43 3) rfl rfl ?_
                 refine pu_ 4 30 HT_ (bs 43 19) rfl rfl ?_
                 refine pu_ 5 31 HT_ (bs 43 51) rfl rfl ?_
                 refine pu_ 9 35 HT_ (bs 43 563) rfl rfl ?_
                 refine pu_ 10 36 HT_ (bs 43 1587) rfl rfl ?_
                 refine pu_ 15 41 HT_ (bs 43 34355) rfl rfl ?_
                 refine pu_ 16 42 HT_ (bs 43 99891) rfl rfl ?_
                 refine pu_ 21 47 HT_ (bs 43 2197043) rfl rfl ?_
                 refine pu_ 22 48 HT_ (bs 43 6391347) rfl rfl ?_
                 refine pu_ 26 52 HT_ (bs 43 73500211) rfl rfl ?_
                 refine pu_ 27 53 HT_ (bs 43 207717939) rfl rfl ?_
                 refine pu_ 29 55 HT_ (bs 43 744588851) rfl rfl ?_
                 refine pu_ 30 56 HT_ (bs 43 1818330675) rfl rfl ?_
                 refine pu_ 32 58 HT_ (bs 43 6113297971) rfl rfl ?_
                 refine pu_ 33 59 HT_ (bs 43 14703232563) rfl rfl ?_
                 refine pu_ 36 62 HT_ (bs 43 83422709299) rfl rfl ?_
                 refine pu_ 37 63 HT_ (bs 43 220861662771) rfl rfl ?_
                 refine take_ (i := 2) (N := some 28) (v := ?_) (a' := ?_) (bs 43 220861662775) rfl rfl (take_ofW HT_.out HW_.out (by kernel_rfl)) (fun _ _ _ h => h) (Or.inl ⟨by rfl, ?_⟩) hHeld ?_ ?_
                 rotate_left
                 ·rintro w' ⟨s0, s1, s2, s3, s4, s5, s6⟩
                  go_simp
                  with_reducible rfl
                 rotate_left
                 ·simp only [Act.put, sA_, sZ_, sS_, i64_w, i32_w]
                  rfl
                 refine pu_ 3 29 HT_ (bs 43 220861662783) rfl rfl ?_
                 refine take_ (i := 6) (N := some 32) (v := ?_) (a' := ?_) (bs 43 220861662847) rfl rfl (take_ofW HT_.out HW_.out (by kernel_rfl)) (fun _ _ _ h => h) (Or.inl ⟨by rfl, ?_⟩) hHeld ?_ ?_
                 rotate_left
                 ·rintro w' ⟨s0, s1, s2, s3, s4, s5, s6⟩
                  go_simp
                  with_reducible rfl
                 rotate_left
                 ·simp only [Act.put, sA_, sZ_, sS_, i64_w, i32_w]
                  rfl
                 refine pu_ 7 33 HT_ (bs 43 220861662975) rfl rfl ?_
                 refine pu_ 8 34 HT_ (bs 43 220861663231) rfl rfl ?_
                 refine take_ (i := 11) (N := some 37) (v := ?_) (a' := ?_) (bs 43 220861665279) rfl rfl (take_ofW HT_.out HW_.out (by kernel_rfl)) (fun _ _ _ h => h) (Or.inl ⟨by rfl, ?_⟩) hHeld ?_ ?_
                 rotate_left
                 ·rintro w' ⟨s0, s1, s2, s3, s4, s5, s6⟩
                  go_simp
                  with_reducible rfl
                 rotate_left
                 ·simp only [Act.put, sA_, sZ_, sS_, i64_w, i32_w]
                  rfl
                 refine pu_ 12 38 HT_ (bs 43 220861669375) rfl rfl ?_
                 refine pu_ 13 39 HT_ (bs 43 220861677567) rfl rfl ?_
                 refine pu_ 14 40 HT_ (bs 43 220861693951) rfl rfl ?_
                 refine take_ (i := 17) (N := some 43) (v := ?_) (a' := ?_) (bs 43 220861825023) rfl rfl (take_ofW HT_.out HW_.out (by kernel_rfl)) (fun _ _ _ h => h) (Or.inl ⟨by rfl, ?_⟩) hHeld ?_ ?_
                 rotate_left
                 ·rintro w' ⟨s0, s1, s2, s3, s4, s5, s6⟩
                  go_simp
                  with_reducible rfl
                 rotate_left
                 ·simp only [Act.put, sA_, sZ_, sS_, i64_w, i32_w]
                  rfl
                 refine pu_ 18 44 HT_ (bs 43 220862087167) rfl rfl ?_
                 refine pu_ 19 45 HT_ (bs 43 220862611455) rfl rfl ?_
                 refine pu_ 20 46 HT_ (bs 43 220863660031) rfl rfl ?_
                 refine take_ (i := 23) (N := some 49) (v := ?_) (a' := ?_) (bs 43 220872048639) rfl rfl (take_ofW HT_.out HW_.out (by kernel_rfl)) (fun _ _ _ h => h) (Or.inl ⟨by rfl, ?_⟩) hHeld ?_ ?_
                 rotate_left
                 ·rintro w' ⟨s0, s1, s2, s3, s4, s5, s6⟩
                  go_simp
                  with_reducible rfl
                 rotate_left
                 ·simp only [Act.put, sA_, sZ_, sS_, i64_w, i32_w]
                  rfl
                 refine pu_ 24 50 HT_ (bs 43 220888825855) rfl rfl ?_
                 refine pu_ 25 51 HT_ (bs 43 220922380287) rfl rfl ?_
                 refine take_ (i := 34) (N := some 60) (v := ?_) (a' := ?_) (bs 43 238102249471) rfl rfl (take_ofW HT_.out HW_.out (by kernel_rfl)) (fun _ _ _ h => h) (Or.inl ⟨by rfl, ?_⟩) hHeld ?_ ?_
                 rotate_left
                 ·rintro w' ⟨s0, s1, s2, s3, s4, s5, s6⟩
                  go_simp
                  with_reducible rfl
                 rotate_left
                 ·simp only [Act.put, sA_, sZ_, sS_, i64_w, i32_w]
                  rfl
                 refine pu_ 35 61 HT_ (bs 43 272461987839) rfl rfl ?_
                 refine take_ (i := 38) (N := some 64) (v := ?_) (a' := ?_) (bs 43 547339894783) rfl rfl (take_ofW HT_.out HW_.out (by kernel_rfl)) (fun _ _ _ h => h) (Or.inl ⟨by rfl, ?_⟩) hHeld ?_ ?_
                 rotate_left
                 ·rintro w' ⟨s0, s1, s2, s3, s4, s5, s6⟩
                  go_simp
                  with_reducible rfl
                 rotate_left
                 ·simp only [Act.put, sA_, sZ_, sS_, i64_w, i32_w]
                  rfl
                 refine pu_ 39 65 HT_ (bs 43 1097095708671) rfl rfl ?_
                 refine join_ (σ := Nat) 1 (bs 43 4398046511103) (fun s_ => [(54, .int .i64 t237), (57, .int .i64 t239), (5, .pointer (some ⟨s_, 0, none⟩)), (66, .agg #[.int .i64 (wrap64 (rd l0 0)), .int .i64 (Go.bits .or .i64 (Go.bits .or .i64 (Go.bits .or .i64 (wrap64 ((wrap64 (rd l0 1)) * 16777216)) (wrap64 ((wrap64 (rd l0 2)) * 65536))) (wrap64 ((wrap64 (rd l0 3)) * 256))) (wrap64 (rd l0 4))), .int .i64 t237, .int .i64 t239, .int .i64 (wrap64 (rd l0 11)), .int .i64 (wrap64 (rd l0 12))])]) (fun s_ w' => (w'.cell? ad229 = some (.int .u8 (rd l0 0)) ∧ w'.cell? ⟨ad229.block, ad229.off + 1, none⟩ = some (.int .u8 (rd l0 1)) ∧ w'.cell? ⟨ad229.block, ad229.off + 2, none⟩ = some (.int .u8 (rd l0 2)) ∧ w'.cell? ⟨ad229.block, ad229.off + 3, none⟩ = some (.int .u8 (rd l0 3)) ∧ w'.cell? ⟨ad229.block, ad229.off + 4, none⟩ = some (.int .u8 (rd l0 4)) ∧ w'.cell? ⟨ad229.block, ad229.off + 11, none⟩ = some (.int .u8 (rd l0 11)) ∧ w'.cell? ⟨ad229.block, ad229.off + 12, none⟩ = some (.int .u8 (rd l0 12))) ∧ (w'.heap[gb226]? = some (.cells #[.int .i64 0, .int .i64 0, .int .i64 0, .int .i64 0, .int .i64 0, .int .i64 0] 35 (0, 0))) ∧ (w'.heap[s_]? = some (.cells #[.int .i64 0, .int .i64 0, .int .i64 0, .int .i64 0, .int .i64 0, .int .i64 0] 35 (0, 0))) ∧ (w.heap.size ≤ s_) ∧ (w.heap.size ≤ s_) ∧ (gb226 ≠ s_) ∧ (s_ ≠ gb226) ∧ (Below w.heap.size w w')) ?_ ?_
                 rotate_left
                 ·intro hCont
                  refine two_ (i := 28) (j := 41) (Ni := some 54) (Nj := some 5) (bs 43 1097364144127) (bs 43 3296118964223) rfl rfl rfl rfl (two_of HT_.out (by kernel_rfl)) (by decide) (by decide) (fun K hK => ?_) (fun K hK => ?_)
                  ·skip
                   refine goes_ Try.func56 (by kernel_rfl) rfl #[.slice A64 (l0.drop 5).length (c0 - 5)] (by rfl) rfl rfl (by (try simp only [List.map_toArray, List.map_cons, List.map_nil]); first | done | (rw [show (l0.drop 5).length = (l0.length - 5) from List.length_drop] <;> rfl) | rfl | (simp only [List.length_drop, List.length_take]; rfl)) ?_
                   with_reducible refine (impl_number24.calls _ _ (l0.drop 5) t237 _ ?side1 ?side2 A14.out).mono ?_
                   (case side1 => repeat (first | exact (Kd.C_below HR236.out HB.out) | (with_reducible refine Kd.C_alloc ?_ _) | (with_reducible refine Kd.C_drewN ?_ _) | (with_reducible refine Kd.C_drew ?_)))
                   (case side2 => exact HC236.out)
                   rintro e w' ⟨rfl, ⟨nd, rfl⟩⟩
                   refine ⟨_, rfl, ?_⟩
                   refine hK.out _ _ ⟨((HB.out.cell (World.block_lt_of_cell? w _ hw231_0)).trans hw231_0), ((HB.out.cell (World.block_lt_of_cell? w _ hw232_0)).trans hw232_0), ((HB.out.cell (World.block_lt_of_cell? w _ hw233_0)).trans hw233_0), ((HB.out.cell (World.block_lt_of_cell? w _ hw234_0)).trans hw234_0), ((HB.out.cell (World.block_lt_of_cell? w _ hw235_0)).trans hw235_0), ((HB.out.cell (World.block_lt_of_cell? w _ hw240_0)).trans hw240_0), ((HB.out.cell (World.block_lt_of_cell? w _ hw241_0)).trans hw241_0)⟩ (fun hHeld => ?_)
                   clear hK K
                   refine norm_ (a' := ?_) ?_ ?_
                   rotate_left
                   ·show Act.put _ (some 54) _ = _
                    simp only [Act.put, sA_, sZ_, sS_, i64_w, i32_w]
                    rfl
                   refine two_ (i := 31) (j := 41) (Ni := some 57) (Nj := some 5) (bs 43 1099511627775) (bs 43 3296387399679) rfl rfl rfl rfl (two_of HT_.out (by kernel_rfl)) (by decide) (by decide) (fun K hK => ?_) (fun K hK => ?_)
                   ·skip
                    refine goes_ Try.func56 (by kernel_rfl) rfl #[.slice A65 (l0.drop 8).length (c0 - 8)] (by rfl) rfl rfl (by (try simp only [List.map_toArray, List.map_cons, List.map_nil]); first | done | (rw [show (l0.drop 8).length = (l0.length - 8) from List.length_drop] <;> rfl) | rfl | (simp only [List.length_drop, List.length_take]; rfl)) ?_
                    with_reducible refine (impl_number24.calls _ _ (l0.drop 8) t239 _ ?side1 ?side2 A16.out).mono ?_
                    (case side1 => repeat (first | exact (Kd.C_below HR238.out (bel_ HB.out)) | (with_reducible refine Kd.C_alloc ?_ _) | (with_reducible refine Kd.C_drewN ?_ _) | (with_reducible refine Kd.C_drew ?_)))
                    (case side2 => exact HC238.out)
                    rintro e w' ⟨rfl, ⟨nd, rfl⟩⟩
                    refine ⟨_, rfl, ?_⟩
                    refine hK.out _ _ ⟨((HB.out.cell (World.block_lt_of_cell? w _ hw231_0)).trans hw231_0), ((HB.out.cell (World.block_lt_of_cell? w _ hw232_0)).trans hw232_0), ((HB.out.cell (World.block_lt_of_cell? w _ hw233_0)).trans hw233_0), ((HB.out.cell (World.block_lt_of_cell? w _ hw234_0)).trans hw234_0), ((HB.out.cell (World.block_lt_of_cell? w _ hw235_0)).trans hw235_0), ((HB.out.cell (World.block_lt_of_cell? w _ hw240_0)).trans hw240_0), ((HB.out.cell (World.block_lt_of_cell? w _ hw241_0)).trans hw241_0)⟩ (fun hHeld => ?_)
                    clear hK K
                    refine norm_ (a' := ?_) ?_ ?_
                    rotate_left
                    ·show Act.put _ (some 57) _ = _
                     simp only [Act.put, sA_, sZ_, sS_, i64_w, i32_w]
                     rfl
                    refine pu_ 40 66 HT_ (bs 43 2199023255551) rfl rfl ?_
                    refine one_ (i := 41) (N := some 5) (bs 43 4398046511103) rfl rfl (one_of HT_.out (by kernel_rfl)) (by decide) (fun K hK => ?_)
                    refine box_step ?hg (N := 5) ?hd (cs := #[.int .i64 0, .int .i64 0, .int .i64 0, .int .i64 0, .int .i64 0, .int .i64 0]) (t := 35) ?hr ?_; (case hd => rfl); (case hg => rfl); (case hr => first | (go_simp; done) | (go_simp; rfl))
                    intro gb242 hg w66 hbox hb
                    have n0_ := Aside0.mk (bb_ BK226.out hb)
                    have n1_ := Aside0.mk (below_step (bel_ HB.out) hb)
                    have n2_ := Aside0.mk (hbox)
                    have n3_ := Aside0.mk ((by rw [hg]; exact (below_size (bel_ HB.out)) : w.heap.size ≤ gb242))
                    have n4_ := Aside0.mk ((by rw [hg]; exact (below_size (bel_ HB.out)) : w.heap.size ≤ gb242))
                    have n5_ := Aside0.mk (nl_ BK226.out hg)
                    have n6_ := Aside0.mk (ng_ BK226.out hg)
                    clear BK226
                    clear HB
                    have BK226 := n0_
                    have HB := n1_
                    have BK242 := n2_
                    have GW242 := n3_
                    have GE242 := n4_
                    have NB226_242 := n5_
                    have NB242_226 := n6_
                    clear n0_ n1_ n2_ n3_ n4_ n5_ n6_
                    clear hb hbox hg
                    refine hK.out _ _ ⟨((HB.out.cell (World.block_lt_of_cell? w _ hw231_0)).trans hw231_0), ((HB.out.cell (World.block_lt_of_cell? w _ hw232_0)).trans hw232_0), ((HB.out.cell (World.block_lt_of_cell? w _ hw233_0)).trans hw233_0), ((HB.out.cell (World.block_lt_of_cell? w _ hw234_0)).trans hw234_0), ((HB.out.cell (World.block_lt_of_cell? w _ hw235_0)).trans hw235_0), ((HB.out.cell (World.block_lt_of_cell? w _ hw240_0)).trans hw240_0), ((HB.out.cell (World.block_lt_of_cell? w _ hw241_0)).trans hw241_0)⟩ (fun hHeld => ?_)
                    clear hK K
                    refine norm_ (a' := ?_) ?_ ?_
                    rotate_left
                    ·show Act.put _ (some 5) _ = _
                     simp only [Act.put, sA_, sZ_, sS_, i64_w, i32_w]
                     rfl
                    exact norm_ (by simp only [putAll, Act.put, sA_, sZ_, sS_]) (hCont (gb242) _ ⟨hHeld, (fb_ BK226.out), (fb_ BK242.out), GW242.out, GE242.out, NB226_242.out, NB242_226.out, (bel_ HB.out)⟩)
                   ·skip
                    refine box_step ?hg (N := 5) ?hd (cs := #[.int .i64 0, .int .i64 0, .int .i64 0, .int .i64 0, .int .i64 0, .int .i64 0]) (t := 35) ?hr ?_; (case hd => rfl); (case hg => rfl); (case hr => first | (go_simp; done) | (go_simp; rfl))
                    intro gb242 hg w66 hbox hb
                    have n0_ := Aside0.mk (bb_ BK226.out hb)
                    have n1_ := Aside0.mk (below_step (bel_ HB.out) hb)
                    have n2_ := Aside0.mk (hbox)
                    have n3_ := Aside0.mk ((by rw [hg]; exact (below_size (bel_ HB.out)) : w.heap.size ≤ gb242))
                    have n4_ := Aside0.mk ((by rw [hg]; exact (below_size (bel_ HB.out)) : w.heap.size ≤ gb242))
                    have n5_ := Aside0.mk (nl_ BK226.out hg)
                    have n6_ := Aside0.mk (ng_ BK226.out hg)
                    clear BK226
                    clear HB
                    have BK226 := n0_
                    have HB := n1_
                    have BK242 := n2_
                    have GW242 := n3_
                    have GE242 := n4_
                    have NB226_242 := n5_
                    have NB242_226 := n6_
                    clear n0_ n1_ n2_ n3_ n4_ n5_ n6_
                    clear hb hbox hg
                    refine hK.out _ _ ⟨((HB.out.cell (World.block_lt_of_cell? w _ hw231_0)).trans hw231_0), ((HB.out.cell (World.block_lt_of_cell? w _ hw232_0)).trans hw232_0), ((HB.out.cell (World.block_lt_of_cell? w _ hw233_0)).trans hw233_0), ((HB.out.cell (World.block_lt_of_cell? w _ hw234_0)).trans hw234_0), ((HB.out.cell (World.block_lt_of_cell? w _ hw235_0)).trans hw235_0), ((HB.out.cell (World.block_lt_of_cell? w _ hw240_0)).trans hw240_0), ((HB.out.cell (World.block_lt_of_cell? w _ hw241_0)).trans hw241_0)⟩ (fun hHeld => ?_)
                    clear hK K
                    refine norm_ (a' := ?_) ?_ ?_
                    rotate_left
                    ·show Act.put _ (some 5) _ = _
                     simp only [Act.put, sA_, sZ_, sS_, i64_w, i32_w]
                     rfl
                    refine one_ (i := 31) (N := some 57) (bs 43 3298534883327) rfl rfl (one_of HT_.out (by kernel_rfl)) (by decide) (fun K hK => ?_)
                    refine goes_ Try.func56 (by kernel_rfl) rfl #[.slice A65 (l0.drop 8).length (c0 - 8)] (by rfl) rfl rfl (by (try simp only [List.map_toArray, List.map_cons, List.map_nil]); first | done | (rw [show (l0.drop 8).length = (l0.length - 8) from List.length_drop] <;> rfl) | rfl | (simp only [List.length_drop, List.length_take]; rfl)) ?_
                    with_reducible refine (impl_number24.calls _ _ (l0.drop 8) t239 _ ?side1 ?side2 A16.out).mono ?_
                    (case side1 => repeat (first | exact (Kd.C_below HR238.out HB.out) | (with_reducible refine Kd.C_alloc ?_ _) | (with_reducible refine Kd.C_drewN ?_ _) | (with_reducible refine Kd.C_drew ?_)))
                    (case side2 => exact HC238.out)
                    rintro e w' ⟨rfl, ⟨nd, rfl⟩⟩
                    refine ⟨_, rfl, ?_⟩
                    refine hK.out _ _ ⟨((HB.out.cell (World.block_lt_of_cell? w _ hw231_0)).trans hw231_0), ((HB.out.cell (World.block_lt_of_cell? w _ hw232_0)).trans hw232_0), ((HB.out.cell (World.block_lt_of_cell? w _ hw233_0)).trans hw233_0), ((HB.out.cell (World.block_lt_of_cell? w _ hw234_0)).trans hw234_0), ((HB.out.cell (World.block_lt_of_cell? w _ hw235_0)).trans hw235_0), ((HB.out.cell (World.block_lt_of_cell? w _ hw240_0)).trans hw240_0), ((HB.out.cell (World.block_lt_of_cell? w _ hw241_0)).trans hw241_0)⟩ (fun hHeld => ?_)
                    clear hK K
                    refine norm_ (a' := ?_) ?_ ?_
                    rotate_left
                    ·show Act.put _ (some 57) _ = _
                     simp only [Act.put, sA_, sZ_, sS_, i64_w, i32_w]
                     rfl
                    refine pu_ 40 66 HT_ (bs 43 4398046511103) rfl rfl ?_
                    exact norm_ (by simp only [putAll, Act.put, sA_, sZ_, sS_]) (hCont (gb242) _ ⟨hHeld, (fb_ BK226.out), (fb_ BK242.out), GW242.out, GE242.out, NB226_242.out, NB242_226.out, (bel_ HB.out)⟩)
                  ·skip
                   refine box_step ?hg (N := 5) ?hd (cs := #[.int .i64 0, .int .i64 0, .int .i64 0, .int .i64 0, .int .i64 0, .int .i64 0]) (t := 35) ?hr ?_; (case hd => rfl); (case hg => rfl); (case hr => first | (go_simp; done) | (go_simp; rfl))
                   intro gb242 hg w66 hbox hb
                   have n0_ := Aside0.mk (bb_ BK226.out hb)
                   have n1_ := Aside0.mk (below_step (bel_ HB.out) hb)
                   have n2_ := Aside0.mk (hbox)
                   have n3_ := Aside0.mk ((by rw [hg]; exact (below_size (bel_ HB.out)) : w.heap.size ≤ gb242))
                   have n4_ := Aside0.mk ((by rw [hg]; exact (below_size (bel_ HB.out)) : w.heap.size ≤ gb242))
                   have n5_ := Aside0.mk (nl_ BK226.out hg)
                   have n6_ := Aside0.mk (ng_ BK226.out hg)
                   clear BK226
                   clear HB
                   have BK226 := n0_
                   have HB := n1_
                   have BK242 := n2_
                   have GW242 := n3_
                   have GE242 := n4_
                   have NB226_242 := n5_
                   have NB242_226 := n6_
                   clear n0_ n1_ n2_ n3_ n4_ n5_ n6_
                   clear hb hbox hg
                   refine hK.out _ _ ⟨((HB.out.cell (World.block_lt_of_cell? w _ hw231_0)).trans hw231_0), ((HB.out.cell (World.block_lt_of_cell? w _ hw232_0)).trans hw232_0), ((HB.out.cell (World.block_lt_of_cell? w _ hw233_0)).trans hw233_0), ((HB.out.cell (World.block_lt_of_cell? w _ hw234_0)).trans hw234_0), ((HB.out.cell (World.block_lt_of_cell? w _ hw235_0)).trans hw235_0), ((HB.out.cell (World.block_lt_of_cell? w _ hw240_0)).trans hw240_0), ((HB.out.cell (World.block_lt_of_cell? w _ hw241_0)).trans hw241_0)⟩ (fun hHeld => ?_)
                   clear hK K
                   refine norm_ (a' := ?_) ?_ ?_
                   rotate_left
                   ·show Act.put _ (some 5) _ = _
                    simp only [Act.put, sA_, sZ_, sS_, i64_w, i32_w]
                    rfl
                   refine one_ (i := 28) (N := some 54) (bs 43 3296387399679) rfl rfl (one_of HT_.out (by kernel_rfl)) (by decide) (fun K hK => ?_)
                   refine goes_ Try.func56 (by kernel_rfl) rfl #[.slice A64 (l0.drop 5).length (c0 - 5)] (by rfl) rfl rfl (by (try simp only [List.map_toArray, List.map_cons, List.map_nil]); first | done | (rw [show (l0.drop 5).length = (l0.length - 5) from List.length_drop] <;> rfl) | rfl | (simp only [List.length_drop, List.length_take]; rfl)) ?_
                   with_reducible refine (impl_number24.calls _ _ (l0.drop 5) t237 _ ?side1 ?side2 A14.out).mono ?_
                   (case side1 => repeat (first | exact (Kd.C_below HR236.out HB.out) | (with_reducible refine Kd.C_alloc ?_ _) | (with_reducible refine Kd.C_drewN ?_ _) | (with_reducible refine Kd.C_drew ?_)))
                   (case side2 => exact HC236.out)
                   rintro e w' ⟨rfl, ⟨nd, rfl⟩⟩
                   refine ⟨_, rfl, ?_⟩
                   refine hK.out _ _ ⟨((HB.out.cell (World.block_lt_of_cell? w _ hw231_0)).trans hw231_0), ((HB.out.cell (World.block_lt_of_cell? w _ hw232_0)).trans hw232_0), ((HB.out.cell (World.block_lt_of_cell? w _ hw233_0)).trans hw233_0), ((HB.out.cell (World.block_lt_of_cell? w _ hw234_0)).trans hw234_0), ((HB.out.cell (World.block_lt_of_cell? w _ hw235_0)).trans hw235_0), ((HB.out.cell (World.block_lt_of_cell? w _ hw240_0)).trans hw240_0), ((HB.out.cell (World.block_lt_of_cell? w _ hw241_0)).trans hw241_0)⟩ (fun hHeld => ?_)
                   clear hK K
                   refine norm_ (a' := ?_) ?_ ?_
                   rotate_left
                   ·show Act.put _ (some 54) _ = _
                    simp only [Act.put, sA_, sZ_, sS_, i64_w, i32_w]
                    rfl
                   refine one_ (i := 31) (N := some 57) (bs 43 3298534883327) rfl rfl (one_of HT_.out (by kernel_rfl)) (by decide) (fun K hK => ?_)
                   refine goes_ Try.func56 (by kernel_rfl) rfl #[.slice A65 (l0.drop 8).length (c0 - 8)] (by rfl) rfl rfl (by (try simp only [List.map_toArray, List.map_cons, List.map_nil]); first | done | (rw [show (l0.drop 8).length = (l0.length - 8) from List.length_drop] <;> rfl) | rfl | (simp only [List.length_drop, List.length_take]; rfl)) ?_
                   with_reducible refine (impl_number24.calls _ _ (l0.drop 8) t239 _ ?side1 ?side2 A16.out).mono ?_
                   (case side1 => repeat (first | exact (Kd.C_below HR238.out (bel_ HB.out)) | (with_reducible refine Kd.C_alloc ?_ _) | (with_reducible refine Kd.C_drewN ?_ _) | (with_reducible refine Kd.C_drew ?_)))
                   (case side2 => exact HC238.out)
                   rintro e w' ⟨rfl, ⟨nd, rfl⟩⟩
                   refine ⟨_, rfl, ?_⟩
                   refine hK.out _ _ ⟨((HB.out.cell (World.block_lt_of_cell? w _ hw231_0)).trans hw231_0), ((HB.out.cell (World.block_lt_of_cell? w _ hw232_0)).trans hw232_0), ((HB.out.cell (World.block_lt_of_cell? w _ hw233_0)).trans hw233_0), ((HB.out.cell (World.block_lt_of_cell? w _ hw234_0)).trans hw234_0), ((HB.out.cell (World.block_lt_of_cell? w _ hw235_0)).trans hw235_0), ((HB.out.cell (World.block_lt_of_cell? w _ hw240_0)).trans hw240_0), ((HB.out.cell (World.block_lt_of_cell? w _ hw241_0)).trans hw241_0)⟩ (fun hHeld => ?_)
                   clear hK K
                   refine norm_ (a' := ?_) ?_ ?_
                   rotate_left
                   ·show Act.put _ (some 57) _ = _
                    simp only [Act.put, sA_, sZ_, sS_, i64_w, i32_w]
                    rfl
                   refine pu_ 40 66 HT_ (bs 43 4398046511103) rfl rfl ?_
                   exact norm_ (by simp only [putAll, Act.put, sA_, sZ_, sS_]) (hCont (gb242) _ ⟨hHeld, (fb_ BK226.out), (fb_ BK242.out), GW242.out, GE242.out, NB226_242.out, NB242_226.out, (bel_ HB.out)⟩)
                 rintro gb242 w67 ⟨hS_, h0_, h1_, h2_, h3_, h4_, h5_, h6_⟩
                 have n0_ : Aside0 (w67.heap[gb226]? = some (.cells #[.int .i64 0, .int .i64 0, .int .i64 0, .int .i64 0, .int .i64 0, .int .i64 0] 35 (0, 0))) := ⟨h0_⟩
                 have n1_ : Aside0 (w67.heap[gb242]? = some (.cells #[.int .i64 0, .int .i64 0, .int .i64 0, .int .i64 0, .int .i64 0, .int .i64 0] 35 (0, 0))) := ⟨h1_⟩
                 have n2_ : Aside0 (w.heap.size ≤ gb242) := ⟨h2_⟩
                 have n3_ : Aside0 (w.heap.size ≤ gb242) := ⟨h3_⟩
                 have n4_ : Aside0 (gb226 ≠ gb242) := ⟨h4_⟩
                 have n5_ : Aside0 (gb242 ≠ gb226) := ⟨h5_⟩
                 have n6_ : Aside0 (Below w.heap.size w w67) := ⟨h6_⟩
                 clear BK226
                 clear HB
                 clear h0_ h1_ h2_ h3_ h4_ h5_ h6_
                 have BK226 := n0_
                 have BK242 := n1_
                 have GW242 := n2_
                 have GE242 := n3_
                 have NB226_242 := n4_
                 have NB242_226 := n5_
                 have HB := n6_
                 clear n0_ n1_ n2_ n3_ n4_ n5_ n6_
                 have hHeld : w67.cell? ad229 = some (.int .u8 (rd l0 0)) ∧ w67.cell? ⟨ad229.block, ad229.off + 1, none⟩ = some (.int .u8 (rd l0 1)) ∧ w67.cell? ⟨ad229.block, ad229.off + 2, none⟩ = some (.int .u8 (rd l0 2)) ∧ w67.cell? ⟨ad229.block, ad229.off + 3, none⟩ = some (.int .u8 (rd l0 3)) ∧ w67.cell? ⟨ad229.block, ad229.off + 4, none⟩ = some (.int .u8 (rd l0 4)) ∧ w67.cell? ⟨ad229.block, ad229.off + 11, none⟩ = some (.int .u8 (rd l0 11)) ∧ w67.cell? ⟨ad229.block, ad229.off + 12, none⟩ = some (.int .u8 (rd l0 12)) := hS_
                 refine norm_ (a' := ?_) ?_ ?_
                 rotate_left
                 ·simp only [putAll, Act.put, sA_, sZ_, sS_]
                  rfl
                 refine one_ (i := 42) (N := none) (bs 43 8796093022207) rfl rfl (one_of HT_.out (by kernel_rfl)) (by decide) (fun K hK => ?_)
                 have hs68 : w67.cell? ⟨gb242, 0, none⟩ = some (.int .i64 0) := (blk_cell BK242.out 0).trans rfl
                 have hfs68 := blk_frozen BK242.out 0
                 have hns68_0 := NB226_242.out
                 have hms68_0 := NB242_226.out
                 have hs69 : w67.cell? ⟨gb242, 1, none⟩ = some (.int .i64 0) := (blk_cell BK242.out 1).trans rfl
                 have hfs69 := blk_frozen BK242.out 1
                 have hns69_0 := NB226_242.out
                 have hms69_0 := NB242_226.out
                 have hs70 : w67.cell? ⟨gb242, 2, none⟩ = some (.int .i64 0) := (blk_cell BK242.out 2).trans rfl
                 have hfs70 := blk_frozen BK242.out 2
                 have hns70_0 := NB226_242.out
                 have hms70_0 := NB242_226.out
                 have hs71 : w67.cell? ⟨gb242, 3, none⟩ = some (.int .i64 0) := (blk_cell BK242.out 3).trans rfl
                 have hfs71 := blk_frozen BK242.out 3
                 have hns71_0 := NB226_242.out
                 have hms71_0 := NB242_226.out
                 have hs72 : w67.cell? ⟨gb242, 4, none⟩ = some (.int .i64 0) := (blk_cell BK242.out 4).trans rfl
                 have hfs72 := blk_frozen BK242.out 4
                 have hns72_0 := NB226_242.out
                 have hms72_0 := NB242_226.out
                 have hs73 : w67.cell? ⟨gb242, 5, none⟩ = some (.int .i64 0) := (blk_cell BK242.out 5).trans rfl
                 have hfs73 := blk_frozen BK242.out 5
                 have hns73_0 := NB226_242.out
                 have hms73_0 := NB242_226.out
                 refine skip_ (w1 := ?_) (by rfl) rfl ?_ ?_
                 rotate_left
                 ·go_simp
                  rfl
                 refine hK.out _ _ ⟨((cell_far (p := ⟨gb242, _, none⟩) (nf_ hw231_0 GW242.out) _).trans (((cell_far (p := ⟨gb242, _, none⟩) (nf_ hw231_0 GW242.out) _).trans (((cell_far (p := ⟨gb242, _, none⟩) (nf_ hw231_0 GW242.out) _).trans (((cell_far (p := ⟨gb242, _, none⟩) (nf_ hw231_0 GW242.out) _).trans (((cell_far (p := ⟨gb242, _, none⟩) (nf_ hw231_0 GW242.out) _).trans (((cell_far (p := ⟨gb242, _, none⟩) (nf_ hw231_0 GW242.out) _).trans (hHeld.1)))))))))))), ((cell_far (p := ⟨gb242, _, none⟩) (nf_ hw232_0 GW242.out) _).trans (((cell_far (p := ⟨gb242, _, none⟩) (nf_ hw232_0 GW242.out) _).trans (((cell_far (p := ⟨gb242, _, none⟩) (nf_ hw232_0 GW242.out) _).trans (((cell_far (p := ⟨gb242, _, none⟩) (nf_ hw232_0 GW242.out) _).trans (((cell_far (p := ⟨gb242, _, none⟩) (nf_ hw232_0 GW242.out) _).trans (((cell_far (p := ⟨gb242, _, none⟩) (nf_ hw232_0 GW242.out) _).trans (hHeld.2.1)))))))))))), ((cell_far (p := ⟨gb242, _, none⟩) (nf_ hw233_0 GW242.out) _).trans (((cell_far (p := ⟨gb242, _, none⟩) (nf_ hw233_0 GW242.out) _).trans (((cell_far (p := ⟨gb242, _, none⟩) (nf_ hw233_0 GW242.out) _).trans (((cell_far (p := ⟨gb242, _, none⟩) (nf_ hw233_0 GW242.out) _).trans (((cell_far (p := ⟨gb242, _, none⟩) (nf_ hw233_0 GW242.out) _).trans (((cell_far (p := ⟨gb242, _, none⟩) (nf_ hw233_0 GW242.out) _).trans (hHeld.2.2.1)))))))))))), ((cell_far (p := ⟨gb242, _, none⟩) (nf_ hw234_0 GW242.out) _).trans (((cell_far (p := ⟨gb242, _, none⟩) (nf_ hw234_0 GW242.out) _).trans (((cell_far (p := ⟨gb242, _, none⟩) (nf_ hw234_0 GW242.out) _).trans (((cell_far (p := ⟨gb242, _, none⟩) (nf_ hw234_0 GW242.out) _).trans (((cell_far (p := ⟨gb242, _, none⟩) (nf_ hw234_0 GW242.out) _).trans (((cell_far (p := ⟨gb242, _, none⟩) (nf_ hw234_0 GW242.out) _).trans (hHeld.2.2.2.1)))))))))))), ((cell_far (p := ⟨gb242, _, none⟩) (nf_ hw235_0 GW242.out) _).trans (((cell_far (p := ⟨gb242, _, none⟩) (nf_ hw235_0 GW242.out) _).trans (((cell_far (p := ⟨gb242, _, none⟩) (nf_ hw235_0 GW242.out) _).trans (((cell_far (p := ⟨gb242, _, none⟩) (nf_ hw235_0 GW242.out) _).trans (((cell_far (p := ⟨gb242, _, none⟩) (nf_ hw235_0 GW242.out) _).trans (((cell_far (p := ⟨gb242, _, none⟩) (nf_ hw235_0 GW242.out) _).trans (hHeld.2.2.2.2.1)))))))))))), ((cell_far (p := ⟨gb242, _, none⟩) (nf_ hw240_0 GW242.out) _).trans (((cell_far (p := ⟨gb242, _, none⟩) (nf_ hw240_0 GW242.out) _).trans (((cell_far (p := ⟨gb242, _, none⟩) (nf_ hw240_0 GW242.out) _).trans (((cell_far (p := ⟨gb242, _, none⟩) (nf_ hw240_0 GW242.out) _).trans (((cell_far (p := ⟨gb242, _, none⟩) (nf_ hw240_0 GW242.out) _).trans (((cell_far (p := ⟨gb242, _, none⟩) (nf_ hw240_0 GW242.out) _).trans (hHeld.2.2.2.2.2.1)))))))))))), ((cell_far (p := ⟨gb242, _, none⟩) (nf_ hw241_0 GW242.out) _).trans (((cell_far (p := ⟨gb242, _, none⟩) (nf_ hw241_0 GW242.out) _).trans (((cell_far (p := ⟨gb242, _, none⟩) (nf_ hw241_0 GW242.out) _).trans (((cell_far (p := ⟨gb242, _, none⟩) (nf_ hw241_0 GW242.out) _).trans (((cell_far (p := ⟨gb242, _, none⟩) (nf_ hw241_0 GW242.out) _).trans (((cell_far (p := ⟨gb242, _, none⟩) (nf_ hw241_0 GW242.out) _).trans (hHeld.2.2.2.2.2.2))))))))))))⟩ (fun hHeld => ?_)
                 clear hK K
                 refine done_ (done_of HT_.out (by kernel_rfl)) ?_
                 have p243 : 0 ≤ (13 : Int) := (by omega)
                 have q243 : 13 < (l0.length : Int) := of_decide_eq_true (by first | (with_reducible assumption) | assumption)
                 obtain ⟨ad243, e243, hx243_0⟩ := Kd.at_int HR0.out 13 p243 q243
                 obtain rfl : ad229 = ad243 := (by injection e243)
                 (try simp only [show (13 : Int).toNat = 13 from rfl, Nat.reduceMul, Nat.reduceEqDiff, Go.Addr.add, ↓reduceIte] at hx243_0)
                 have qi243 : (13 < l0.length) = True := eq_true (by omega)
                 (try rw [show ((13 : Int)).toNat = 13 from rfl] at hx243_0)
                 have hn243_0 : ad229.block ≠ gb242 := Nat.ne_of_lt (Nat.lt_of_lt_of_le (by have := World.block_lt_of_cell? _ _ hx243_0; first | rwa [add_block] at this | exact this) GW242.out)
                 have hn243_1 : ad229.block ≠ gb242 := Nat.ne_of_lt (Nat.lt_of_lt_of_le (by have := World.block_lt_of_cell? _ _ hx243_0; first | rwa [add_block] at this | exact this) GW242.out)
                 have hn243_2 : ad229.block ≠ gb242 := Nat.ne_of_lt (Nat.lt_of_lt_of_le (by have := World.block_lt_of_cell? _ _ hx243_0; first | rwa [add_block] at this | exact this) GW242.out)
                 have hn243_3 : ad229.block ≠ gb242 := Nat.ne_of_lt (Nat.lt_of_lt_of_le (by have := World.block_lt_of_cell? _ _ hx243_0; first | rwa [add_block] at this | exact this) GW242.out)
                 have hn243_4 : ad229.block ≠ gb242 := Nat.ne_of_lt (Nat.lt_of_lt_of_le (by have := World.block_lt_of_cell? _ _ hx243_0; first | rwa [add_block] at this | exact this) GW242.out)
                 have hn243_5 : ad229.block ≠ gb242 := Nat.ne_of_lt (Nat.lt_of_lt_of_le (by have := World.block_lt_of_cell? _ _ hx243_0; first | rwa [add_block] at this | exact this) GW242.out)
                 replace hx243_0 := (HB.out.cell (World.block_lt_of_cell? w _ hx243_0)).trans hx243_0
                 replace hx243_0 := (cell_far (p := ⟨gb242, 0, none⟩) (by first | (rw [add_block]; exact hn243_0) | (show (Addr.add _ _).block ≠ _; rw [add_block]; exact hn243_0) | exact hn243_0) (.int .i64 (wrap64 (rd l0 0)))).trans hx243_0
                 replace hx243_0 := (cell_far (p := ⟨gb242, 1, none⟩) (by first | (rw [add_block]; exact hn243_1) | (show (Addr.add _ _).block ≠ _; rw [add_block]; exact hn243_1) | exact hn243_1) (.int .i64 (Go.bits .or .i64 (Go.bits .or .i64 (Go.bits .or .i64 (wrap64 ((wrap64 (rd l0 1)) * 16777216)) (wrap64 ((wrap64 (rd l0 2)) * 65536))) (wrap64 ((wrap64 (rd l0 3)) * 256))) (wrap64 (rd l0 4))))).trans hx243_0
                 replace hx243_0 := (cell_far (p := ⟨gb242, 2, none⟩) (by first | (rw [add_block]; exact hn243_2) | (show (Addr.add _ _).block ≠ _; rw [add_block]; exact hn243_2) | exact hn243_2) (.int .i64 t237)).trans hx243_0
                 replace hx243_0 := (cell_far (p := ⟨gb242, 3, none⟩) (by first | (rw [add_block]; exact hn243_3) | (show (Addr.add _ _).block ≠ _; rw [add_block]; exact hn243_3) | exact hn243_3) (.int .i64 t239)).trans hx243_0
                 replace hx243_0 := (cell_far (p := ⟨gb242, 4, none⟩) (by first | (rw [add_block]; exact hn243_4) | (show (Addr.add _ _).block ≠ _; rw [add_block]; exact hn243_4) | exact hn243_4) (.int .i64 (wrap64 (rd l0 11)))).trans hx243_0
                 replace hx243_0 := (cell_far (p := ⟨gb242, 5, none⟩) (by first | (rw [add_block]; exact hn243_5) | (show (Addr.add _ _).block ≠ _; rw [add_block]; exact hn243_5) | exact hn243_5) (.int .i64 (wrap64 (rd l0 12)))).trans hx243_0
                 clear hn243_0
                 clear hn243_1
                 clear hn243_2
                 clear hn243_3
                 clear hn243_4
                 clear hn243_5
                 replace p243 := eq_true p243
                 replace q243 := eq_true q243
                 have hnb74 := NB226_242.out
                 have hnc74 := NB242_226.out
                 have hcz75_0 : w67.cell? ⟨gb226, 0, none⟩ = some (.int .i64 0) := (blk_cell BK226.out 0).trans rfl
                 have hcz75_1 : w67.cell? ⟨gb226, 1, none⟩ = some (.int .i64 0) := (blk_cell BK226.out 1).trans rfl
                 have hcz75_2 : w67.cell? ⟨gb226, 2, none⟩ = some (.int .i64 0) := (blk_cell BK226.out 2).trans rfl
                 have hcz75_3 : w67.cell? ⟨gb226, 3, none⟩ = some (.int .i64 0) := (blk_cell BK226.out 3).trans rfl
                 have hcz75_4 : w67.cell? ⟨gb226, 4, none⟩ = some (.int .i64 0) := (blk_cell BK226.out 4).trans rfl
                 have hcz75_5 : w67.cell? ⟨gb226, 5, none⟩ = some (.int .i64 0) := (blk_cell BK226.out 5).trans rfl
                 have hfz75_0 := blk_frozen BK226.out 0
                 have hfz75_1 := blk_frozen BK226.out 1
                 have hfz75_2 := blk_frozen BK226.out 2
                 have hfz75_3 := blk_frozen BK226.out 3
                 have hfz75_4 := blk_frozen BK226.out 4
                 have hfz75_5 := blk_frozen BK226.out 5
                 try go_wp2
                 refine bodyPost_ret (results_ct rfl _ _ gb226 35 #[.int .i64 0, .int .i64 0, .int .i64 0, .int .i64 0, .int .i64 0, .int .i64 0] (0, 0) _ rfl (by refine rp_ ?_; refine blk_put (cs := #[.int .i64 0, .int .i64 0, .int .i64 0, .int .i64 0, .int .i64 0, .int .i64 0]) ?_ 5 _ rfl; refine rp_ ?_; refine blk_put (cs := #[.int .i64 0, .int .i64 0, .int .i64 0, .int .i64 0, .int .i64 0, .int .i64 0]) ?_ 4 _ rfl; refine rp_ ?_; refine blk_put (cs := #[.int .i64 0, .int .i64 0, .int .i64 0, .int .i64 0, .int .i64 0, .int .i64 0]) ?_ 3 _ rfl; refine rp_ ?_; refine blk_put (cs := #[.int .i64 0, .int .i64 0, .int .i64 0, .int .i64 0, .int .i64 0, .int .i64 0]) ?_ 2 _ rfl; refine rp_ ?_; refine blk_put (cs := #[.int .i64 0, .int .i64 0, .int .i64 0, .int .i64 0, .int .i64 0, .int .i64 0]) ?_ 1 _ rfl; refine rp_ ?_; refine blk_put (cs := #[.int .i64 0, .int .i64 0, .int .i64 0, .int .i64 0, .int .i64 0, .int .i64 0]) ?_ 0 _ rfl; refine rp_ ?_; refine blk_far ?_ NB226_242.out _; refine rp_ ?_; refine blk_far ?_ NB226_242.out _; refine rp_ ?_; refine blk_far ?_ NB226_242.out _; refine rp_ ?_; refine blk_far ?_ NB226_242.out _; refine rp_ ?_; refine blk_far ?_ NB226_242.out _; refine rp_ ?_; refine blk_far ?_ NB226_242.out _; refine rp_ ?_; exact BK226.out) Try.underlying35 rfl (by kernel_rfl)) rfl ?_
                 exact ⟨by first | rfl | (simp [errW_none, errW_some] <;> rfl) | (simp [*, errW_none, errW_some] <;> rfl), bel_ HB.out⟩
               ·rw [if_neg c19] at H
                exact absurd H (by simp)
              ·rw [if_neg c18] at H
               exact absurd H (by simp)
             ·rw [if_neg c17] at H
              exact absurd H (by simp)
            ·rw [if_neg c15] at H
             exact absurd H (by simp)
           ·rw [if_neg c13] at H
            exact absurd H (by simp)
          ·rw [if_neg c12] at H
           exact absurd H (by simp)
         ·rw [if_neg c11] at H
          exact absurd H (by simp)
        ·rw [if_neg c10] at H
         exact absurd H (by simp)
       ·rw [if_neg c9] at H
        exact absurd H (by simp)
      ·rw [if_neg c8] at H
       exact absurd H (by simp)
     ·rw [if_neg c7] at H
      have c7b0 : (t228 == (Go.bits .or .i64 (wrap64 ((wrap64 (rd l0 14)) * 256)) (wrap64 (rd l0 15)))) = false := beq_eq_false_iff_ne.mpr c7
      have c7b1 : (t228 != (Go.bits .or .i64 (wrap64 ((wrap64 (rd l0 14)) * 256)) (wrap64 (rd l0 15)))) = true := bne_iff_ne.mpr c7
      simp only [Option.some.injEq, Prod.mk.injEq] at H
      obtain ⟨rfl, rfl, rfl, rfl, rfl, rfl, rfl⟩ := H
      go_enter Try.func21, Try.ntmps21
      try go_wp2_with (first | ((with_reducible refine gate_dst (N := 2) rfl ?_); refine box_event ?hg (N := 2) ?hd (cs := #[.int .i64 0, .int .i64 0, .int .i64 0, .int .i64 0, .int .i64 0, .int .i64 0]) (t := 35) ?hr ?_; (case hd => rfl); (case hg => rfl); (case hr => first | (go_simp; done) | (go_simp; rfl)); intro gb226 hg w76 hbox hb; have n0_ := Aside0.mk (below_step (bel_ HB.out) hb); have n1_ := Aside0.mk (hbox); have n2_ := Aside0.mk ((by rw [hg]; exact (below_size (bel_ HB.out)) : w.heap.size ≤ gb226)); have n3_ := Aside0.mk ((by rw [hg]; exact (below_size (bel_ HB.out)) : w.heap.size ≤ gb226)); clear HB; have HB := n0_; have BK226 := n1_; have GW226 := n2_; have GE226 := n3_; clear n0_ n1_ n2_ n3_; clear hb hbox hg))
      have n0_ := Aside0.mk (blk_drew BK226.out)
      have n1_ := Aside0.mk (below_drew1 HB.out)
      clear BK226
      clear HB
      have BK226 := n0_
      have HB := n1_
      clear n0_ n1_
      obtain ⟨i078, hi078, _, hsz78, _⟩ := info_parts info5
      obtain ⟨hcut78, hA78, hC78⟩ := print_take_of (P := Try.prog) (Value.int .u8) 0 22 5 .i64 Try.underlying22 hi078 hsz78 A0 c0 l0 14 (by omega) (of_decide_eq_true (by first | (with_reducible assumption) | assumption)) HC0.out
      have HR227 := Aside0.mk (Kd.C_of_reads (h1 := fun _ => rfl) (hA78 _ (Kd.reads_of_C HR0.out)))
      have HC227 := Aside0.mk hC78
      clear hA78 hC78 hi078 hsz78
      have p229 : 0 ≤ (14 : Int) := (by omega)
      have q229 : 14 < (l0.length : Int) := of_decide_eq_true (by first | (with_reducible assumption) | assumption)
      obtain ⟨ad229, e229, hx229_0⟩ := Kd.at_int HR0.out 14 p229 q229
      have hw229_0 := hx229_0
      (try rw [show ((14 : Int)).toNat = 14 from rfl] at hw229_0)
      (try rw [show 14 * 1 = 14 from rfl] at hw229_0)
      (try simp only [Nat.reduceMul, Nat.reduceEqDiff, Go.Addr.add, ↓reduceIte] at hw229_0)
      cases e229
      (try simp only [show (14 : Int).toNat = 14 from rfl, Nat.reduceMul, Nat.reduceEqDiff, Go.Addr.add, ↓reduceIte] at hx229_0)
      have qi229 : (14 < l0.length) = True := eq_true (by omega)
      (try rw [show ((14 : Int)).toNat = 14 from rfl] at hx229_0)
      replace hx229_0 := (HB.out.cell (World.block_lt_of_cell? w _ hx229_0)).trans hx229_0
      replace p229 := eq_true p229
      replace q229 := eq_true q229
      have p230 : 0 ≤ (15 : Int) := (by omega)
      have q230 : 15 < (l0.length : Int) := of_decide_eq_true (by first | (with_reducible assumption) | assumption)
      obtain ⟨ad230, e230, hx230_0⟩ := Kd.at_int HR0.out 15 p230 q230
      have hw230_0 := hx230_0
      (try rw [show ((15 : Int)).toNat = 15 from rfl] at hw230_0)
      (try rw [show 15 * 1 = 15 from rfl] at hw230_0)
      (try simp only [Nat.reduceMul, Nat.reduceEqDiff, Go.Addr.add, ↓reduceIte] at hw230_0)
      obtain rfl : ad229 = ad230 := (by injection e230)
      (try simp only [show (15 : Int).toNat = 15 from rfl, Nat.reduceMul, Nat.reduceEqDiff, Go.Addr.add, ↓reduceIte] at hx230_0)
      have qi230 : (15 < l0.length) = True := eq_true (by omega)
      (try rw [show ((15 : Int)).toNat = 15 from rfl] at hx230_0)
      replace hx230_0 := (HB.out.cell (World.block_lt_of_cell? w _ hx230_0)).trans hx230_0
      replace p230 := eq_true p230
      replace q230 := eq_true q230
      refine start_ (n := 14) (S := fun w' => w'.cell? ⟨ad229.block, ad229.off + 14, none⟩ = some (.int .u8 (rd l0 14)) ∧ w'.cell? ⟨ad229.block, ad229.off + 15, none⟩ = some (.int .u8 (rd l0 15))) (ds := []) (bs 14 0) (by kernel_rfl) rfl rfl ⟨((HB.out.cell (World.block_lt_of_cell? w _ hw229_0)).trans hw229_0), ((HB.out.cell (World.block_lt_of_cell? w _ hw230_0)).trans hw230_0)⟩ (fun hHeld => ?_); refine with_tabW impl_ReadReport.tab4 impl_ReadReport.bits4 (fun HT_ HW_ => ?_)
      generalize w76.drew = w77 at BK226 HB HR227 hx229_0 hx230_0 hHeld ⊢
      refine pu_ 0 11 HT_ (bs 14 1) rfl rfl ?_
      refine pu_ 1 12 HT_ (bs 14 3) rfl rfl ?_
      refine pu_ 3 14 HT_ (bs 14 11) rfl rfl ?_
      refine pu_ 4 15 HT_ (bs 14 27) rfl rfl ?_
      refine pu_ 8 19 HT_ (bs 14 283) rfl rfl ?_
      refine pu_ 9 20 HT_ (bs 14 795) rfl rfl ?_
      refine take_ (i := 5) (N := some 16) (v := ?_) (a' := ?_) (bs 14 827) rfl rfl (take_ofW HT_.out HW_.out (by kernel_rfl)) (fun _ _ _ h => h) (Or.inl ⟨by rfl, ?_⟩) hHeld ?_ ?_
      rotate_left
      ·rintro w' ⟨s0, s1⟩
       go_simp
       with_reducible rfl
      rotate_left
      ·simp only [Act.put, sA_, sZ_, sS_, i64_w, i32_w]
       rfl
      refine pu_ 6 17 HT_ (bs 14 891) rfl rfl ?_
      refine pu_ 7 18 HT_ (bs 14 1019) rfl rfl ?_
      refine take_ (i := 10) (N := some 21) (v := ?_) (a' := ?_) (bs 14 2043) rfl rfl (take_ofW HT_.out HW_.out (by kernel_rfl)) (fun _ _ _ h => h) (Or.inl ⟨by rfl, ?_⟩) hHeld ?_ ?_
      rotate_left
      ·rintro w' ⟨s0, s1⟩
       go_simp
       with_reducible rfl
      rotate_left
      ·simp only [Act.put, sA_, sZ_, sS_, i64_w, i32_w]
       rfl
      refine pu_ 11 22 HT_ (bs 14 4091) rfl rfl ?_
      refine pu_ 12 23 HT_ (bs 14 8187) rfl rfl ?_
      refine one_ (i := 2) (N := some 13) (bs 14 8191) rfl rfl (one_of HT_.out (by kernel_rfl)) (by decide) (fun K hK => ?_)
      refine goes_ Try.func52 (by kernel_rfl) rfl #[.slice (some ad229) (l0.take 14).length c0] (by rfl) rfl rfl (by (try simp only [List.map_toArray, List.map_cons, List.map_nil]); first | done | (rw [show (l0.take 14).length = 14 from (by rw [List.length_take]; have h_ : (14 : Int) ≤ (l0.length : Int) := of_decide_eq_true (by first | (with_reducible assumption) | assumption); omega)] <;> rfl) | rfl | (simp only [List.length_drop, List.length_take]; rfl)) ?_
      with_reducible refine (impl_frameCheck.calls k _ _ (l0.take 14) t228 _ ?side1 ?side2 A4.out).mono ?_
      (case side1 => repeat (first | exact (Kd.C_below HR227.out HB.out) | (with_reducible refine Kd.C_alloc ?_ _) | (with_reducible refine Kd.C_drewN ?_ _) | (with_reducible refine Kd.C_drew ?_)))
      (case side2 => exact HC227.out)
      rintro e w' ⟨rfl, ⟨nd, rfl⟩⟩
      refine ⟨_, rfl, ?_⟩
      refine hK.out _ _ ⟨((HB.out.cell (World.block_lt_of_cell? w _ hw229_0)).trans hw229_0), ((HB.out.cell (World.block_lt_of_cell? w _ hw230_0)).trans hw230_0)⟩ (fun hHeld => ?_)
      clear hK K
      refine norm_ (a' := ?_) ?_ ?_
      rotate_left
      ·show Act.put _ (some 13) _ = _
       simp only [Act.put, sA_, sZ_, sS_, i64_w, i32_w]
       rfl
      refine pu_ 13 24 HT_ (bs 14 16383) rfl rfl ?_
      refine done_ (done_of HT_.out (by kernel_rfl)) ?_
      have hcz79_0 : w77.cell? ⟨gb226, 0, none⟩ = some (.int .i64 0) := (blk_cell BK226.out 0).trans rfl
      have hcz79_1 : w77.cell? ⟨gb226, 1, none⟩ = some (.int .i64 0) := (blk_cell BK226.out 1).trans rfl
      have hcz79_2 : w77.cell? ⟨gb226, 2, none⟩ = some (.int .i64 0) := (blk_cell BK226.out 2).trans rfl
      have hcz79_3 : w77.cell? ⟨gb226, 3, none⟩ = some (.int .i64 0) := (blk_cell BK226.out 3).trans rfl
      have hcz79_4 : w77.cell? ⟨gb226, 4, none⟩ = some (.int .i64 0) := (blk_cell BK226.out 4).trans rfl
      have hcz79_5 : w77.cell? ⟨gb226, 5, none⟩ = some (.int .i64 0) := (blk_cell BK226.out 5).trans rfl
      have hfz79_0 := blk_frozen BK226.out 0
      have hfz79_1 := blk_frozen BK226.out 1
      have hfz79_2 := blk_frozen BK226.out 2
      have hfz79_3 := blk_frozen BK226.out 3
      have hfz79_4 := blk_frozen BK226.out 4
      have hfz79_5 := blk_frozen BK226.out 5
      try go_wp2
      refine bodyPost_ret (results_ct rfl _ _ gb226 35 #[.int .i64 0, .int .i64 0, .int .i64 0, .int .i64 0, .int .i64 0, .int .i64 0] (0, 0) _ rfl (by refine rp_ ?_; refine blk_put (cs := #[.int .i64 0, .int .i64 0, .int .i64 0, .int .i64 0, .int .i64 0, .int .i64 0]) ?_ 5 _ rfl; refine rp_ ?_; refine blk_put (cs := #[.int .i64 0, .int .i64 0, .int .i64 0, .int .i64 0, .int .i64 0, .int .i64 0]) ?_ 4 _ rfl; refine rp_ ?_; refine blk_put (cs := #[.int .i64 0, .int .i64 0, .int .i64 0, .int .i64 0, .int .i64 0, .int .i64 0]) ?_ 3 _ rfl; refine rp_ ?_; refine blk_put (cs := #[.int .i64 0, .int .i64 0, .int .i64 0, .int .i64 0, .int .i64 0, .int .i64 0]) ?_ 2 _ rfl; refine rp_ ?_; refine blk_put (cs := #[.int .i64 0, .int .i64 0, .int .i64 0, .int .i64 0, .int .i64 0, .int .i64 0]) ?_ 1 _ rfl; refine rp_ ?_; refine blk_put (cs := #[.int .i64 0, .int .i64 0, .int .i64 0, .int .i64 0, .int .i64 0, .int .i64 0]) ?_ 0 _ rfl; refine rp_ ?_; exact BK226.out) Try.underlying35 rfl (by kernel_rfl)) rfl ?_
      exact ⟨by first | rfl | (simp [errW_none, errW_some] <;> rfl) | (simp [*, errW_none, errW_some] <;> rfl), bel_ HB.out⟩
    ·rw [if_neg c6] at H
     exact absurd H (by simp)
   ·rw [if_neg c5] at H
    exact absurd H (by simp)
  ·rw [if_neg c3] at H
   exact absurd H (by simp)
 ·rw [if_neg c2] at H
  have c2b0 : ((l0.length : Int) == 16) = false := beq_eq_false_iff_ne.mpr c2
  have c2b1 : ((l0.length : Int) != 16) = true := bne_iff_ne.mpr c2
  simp only [Option.some.injEq, Prod.mk.injEq] at H
  obtain ⟨rfl, rfl, rfl, rfl, rfl, rfl, rfl⟩ := H
  go_enter Try.func21, Try.ntmps21
  go_wp2_with (first | ((with_reducible refine gate_dst (N := 2) rfl ?_); refine box_event ?hg (N := 2) ?hd (cs := #[.int .i64 0, .int .i64 0, .int .i64 0, .int .i64 0, .int .i64 0, .int .i64 0]) (t := 35) ?hr ?_; (case hd => rfl); (case hg => rfl); (case hr => first | (go_simp; done) | (go_simp; rfl)); intro gb226 hg w80 hbox hb; have n0_ := Aside0.mk (below_step (bel_ HB.out) hb); have n1_ := Aside0.mk (hbox); have n2_ := Aside0.mk ((by rw [hg]; exact (below_size (bel_ HB.out)) : w.heap.size ≤ gb226)); have n3_ := Aside0.mk ((by rw [hg]; exact (below_size (bel_ HB.out)) : w.heap.size ≤ gb226)); clear HB; have HB := n0_; have BK226 := n1_; have GW226 := n2_; have GE226 := n3_; clear n0_ n1_ n2_ n3_; clear hb hbox hg; have hcz81_0 : w80.cell? ⟨gb226, 0, none⟩ = some (.int .i64 0) := (blk_cell BK226.out 0).trans rfl; have hcz81_1 : w80.cell? ⟨gb226, 1, none⟩ = some (.int .i64 0) := (blk_cell BK226.out 1).trans rfl; have hcz81_2 : w80.cell? ⟨gb226, 2, none⟩ = some (.int .i64 0) := (blk_cell BK226.out 2).trans rfl; have hcz81_3 : w80.cell? ⟨gb226, 3, none⟩ = some (.int .i64 0) := (blk_cell BK226.out 3).trans rfl; have hcz81_4 : w80.cell? ⟨gb226, 4, none⟩ = some (.int .i64 0) := (blk_cell BK226.out 4).trans rfl; have hcz81_5 : w80.cell? ⟨gb226, 5, none⟩ = some (.int .i64 0) := (blk_cell BK226.out 5).trans rfl; have hfz81_0 := blk_frozen BK226.out 0; have hfz81_1 := blk_frozen BK226.out 1; have hfz81_2 := blk_frozen BK226.out 2; have hfz81_3 := blk_frozen BK226.out 3; have hfz81_4 := blk_frozen BK226.out 4; have hfz81_5 := blk_frozen BK226.out 5))
  refine bodyPost_ret (results_ct rfl _ _ gb226 35 #[.int .i64 0, .int .i64 0, .int .i64 0, .int .i64 0, .int .i64 0, .int .i64 0] (0, 0) _ rfl (by refine rp_ ?_; refine blk_put (cs := #[.int .i64 0, .int .i64 0, .int .i64 0, .int .i64 0, .int .i64 0, .int .i64 0]) ?_ 5 _ rfl; refine rp_ ?_; refine blk_put (cs := #[.int .i64 0, .int .i64 0, .int .i64 0, .int .i64 0, .int .i64 0, .int .i64 0]) ?_ 4 _ rfl; refine rp_ ?_; refine blk_put (cs := #[.int .i64 0, .int .i64 0, .int .i64 0, .int .i64 0, .int .i64 0, .int .i64 0]) ?_ 3 _ rfl; refine rp_ ?_; refine blk_put (cs := #[.int .i64 0, .int .i64 0, .int .i64 0, .int .i64 0, .int .i64 0, .int .i64 0]) ?_ 2 _ rfl; refine rp_ ?_; refine blk_put (cs := #[.int .i64 0, .int .i64 0, .int .i64 0, .int .i64 0, .int .i64 0, .int .i64 0]) ?_ 1 _ rfl; refine rp_ ?_; refine blk_put (cs := #[.int .i64 0, .int .i64 0, .int .i64 0, .int .i64 0, .int .i64 0, .int .i64 0]) ?_ 0 _ rfl; refine rp_ ?_; exact BK226.out) Try.underlying35 rfl (by kernel_rfl)) rfl ?_
  exact ⟨by first | rfl | (simp [errW_none, errW_some] <;> rfl) | (simp [*, errW_none, errW_some] <;> rfl), bel_ HB.out⟩

end Go.Proofs.Ytbhdnhpkpbhilaa.PFnFrames
