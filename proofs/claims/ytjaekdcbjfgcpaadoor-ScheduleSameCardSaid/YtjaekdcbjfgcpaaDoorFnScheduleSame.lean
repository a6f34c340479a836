/- What a law of epochs computes, with the proof; printed by a program. -/
import Derived.Test.YtjaekdcbjfgcpaaDoorProg
import Derived.Test.YtjaekdcbjfgcpaaDoorEv4
import Derived.Test.YtjaekdcbjfgcpaaDoorFnSchedL
import Derived.Test.YtjaekdcbjfgcpaaDoorFnNum
namespace Go.Proofs.YtjaekdcbjfgcpaaDoor.fn
open Go Go.Proofs Go.Ev

/-! ### Tryd.f5: ScheduleSame -/
namespace ScheduleSame
def an : Anns := ⟨fun i => findA i [], fun i => findA i [], false, fun _ => none, []⟩
noncomputable def g (malive22 : alive22.Ty) (msJoiner : sJoiner.Ty) (msOf : sOf.Ty) (msExport : sExport.Ty) (mNum : Num.Ty) : Gi := giD Tryd.prog (gtL [(0, .err 1), (1, .err 3), (2, .err 2), (3, .err 4), (4, .err 5), (5, .err 6), (6, .err 7), (7, .err 8), (8, .err 9), (9, .err 10), (10, .err 11), (11, .err 12), (12, .err 13), (13, .err 14), (14, .err 15), (15, .err 16), (16, .err 17), (17, .err 18), (18, .err 19), (19, .ints .u32 64 [1116352408, 1899447441, 3049323471, 3921009573, 961987163, 1508970993, 2453635748, 2870763221, 3624381080, 310598401, 607225278, 1426881987, 1925078388, 2162078206, 2614888103, 3248222580, 3835390401, 4022224774, 264347078, 604807628, 770255983, 1249150122, 1555081692, 1996064986, 2554220882, 2821834349, 2952996808, 3210313671, 3336571891, 3584528711, 113926993, 338241895, 666307205, 773529912, 1294757372, 1396182291, 1695183700, 1986661051, 2177026350, 2456956037, 2730485921, 2820302411, 3259730800, 3345764771, 3516065817, 3600352804, 4094571909, 275423344, 430227734, 506948616, 659060556, 883997877, 958139571, 1322822218, 1537002063, 1747873779, 1955562222, 2024104815, 2227730452, 2361852424, 2428436474, 2756734187, 3204031479, 3329325298])]) (fun _ => an) 0 [] (ovL [(7, alive22.con malive22), (8, sJoiner.con msJoiner), (10, sOf.con msOf), (15, sExport.con msExport), (16, Num.con mNum)]) 1
noncomputable def m (malive22 : alive22.Ty) (msJoiner : sJoiner.Ty) (msOf : sOf.Ty) (msExport : sExport.Ty) (mNum : Num.Ty) {R : Type} (_N : Nat) (init1 : List Int) (way2 : List Int) (contextN3 : Option Bool) (context4 : List Int) (kr0 : Bool → Option R) : Option R :=
  malive22 R
   (fun v_c2 => cond (!v_c2)
    (kr0 false)
    (cond (decide ((↑context4.length : Int) > 16384))
     (kr0 true)
     (msJoiner R init1 way2 contextN3 context4
      (fun v_c3 => msOf R v_c3 contextN3 context4
       (fun v_c4 v_1_c5 v_2_c6 v_3_c7 v_4_c8 v_5_c9 v_6_c10 v_7_c11 => msOf R v_c3 contextN3 context4
        (fun v_c12 v_1_c13 v_2_c14 v_3_c15 v_4_c16 v_5_c17 v_6_c18 v_7_c19 => msExport R v_c4 v_1_c5 v_2_c6 v_3_c7 v_4_c8 v_5_c9 v_6_c10 v_7_c11 ([108]) contextN3 context4 40
         (fun v_c20 => msExport R v_c12 v_1_c13 v_2_c14 v_3_c15 v_4_c16 v_5_c17 v_6_c18 v_7_c19 ([108]) contextN3 context4 40
          (fun v_c21 => msExport R v_c4 v_1_c5 v_2_c6 v_3_c7 v_4_c8 v_5_c9 v_6_c10 v_7_c11 ([108]) contextN3 context4 1001
           (fun _v_c22 => msExport R v_c4 v_1_c5 v_2_c6 v_3_c7 v_4_c8 v_5_c9 v_6_c10 v_7_c11 ([108]) none (cut none 0 (List.replicate 16385 (0 : Int))) 4
            (fun _v_c23 => cond (eqVal [AV.ints IntKind.u8 32 v_c4, AV.ints IntKind.u8 32 v_1_c5, AV.ints IntKind.u8 32 v_2_c6, AV.ints IntKind.u8 32 v_3_c7, AV.ints IntKind.u8 32 v_4_c8, AV.ints IntKind.u8 32 v_5_c9, AV.ints IntKind.u8 32 v_6_c10, AV.ints IntKind.u8 32 v_7_c11] [AV.ints IntKind.u8 32 v_c12, AV.ints IntKind.u8 32 v_1_c13, AV.ints IntKind.u8 32 v_2_c14, AV.ints IntKind.u8 32 v_3_c15, AV.ints IntKind.u8 32 v_4_c16, AV.ints IntKind.u8 32 v_5_c17, AV.ints IntKind.u8 32 v_6_c18, AV.ints IntKind.u8 32 v_7_c19])
             (cond (v_c4 == v_c3)
              (cond (v_c20.beq 0)
               (cond (v_c21.beq 0)
                (kr0 false)
                (kr0 false))
               (kr0 false))
              (kr0 false))
             (kr0 false))
            (fun _vg1_c24 _v_1_c25 _v_2_c26 => cond (eqVal [AV.ints IntKind.u8 32 v_c4, AV.ints IntKind.u8 32 v_1_c5, AV.ints IntKind.u8 32 v_2_c6, AV.ints IntKind.u8 32 v_3_c7, AV.ints IntKind.u8 32 v_4_c8, AV.ints IntKind.u8 32 v_5_c9, AV.ints IntKind.u8 32 v_6_c10, AV.ints IntKind.u8 32 v_7_c11] [AV.ints IntKind.u8 32 v_c12, AV.ints IntKind.u8 32 v_1_c13, AV.ints IntKind.u8 32 v_2_c14, AV.ints IntKind.u8 32 v_3_c15, AV.ints IntKind.u8 32 v_4_c16, AV.ints IntKind.u8 32 v_5_c17, AV.ints IntKind.u8 32 v_6_c18, AV.ints IntKind.u8 32 v_7_c19])
             (cond (v_c4 == v_c3)
              (cond (v_c20.beq 0)
               (cond (v_c21.beq 0)
                (kr0 false)
                (kr0 false))
               (kr0 false))
              (kr0 false))
             (kr0 false)))
           (fun _vg1_c27 _v_1_c28 _v_2_c29 => msExport R v_c4 v_1_c5 v_2_c6 v_3_c7 v_4_c8 v_5_c9 v_6_c10 v_7_c11 ([108]) none (cut none 0 (List.replicate 16385 (0 : Int))) 4
            (fun _v_c30 => cond (eqVal [AV.ints IntKind.u8 32 v_c4, AV.ints IntKind.u8 32 v_1_c5, AV.ints IntKind.u8 32 v_2_c6, AV.ints IntKind.u8 32 v_3_c7, AV.ints IntKind.u8 32 v_4_c8, AV.ints IntKind.u8 32 v_5_c9, AV.ints IntKind.u8 32 v_6_c10, AV.ints IntKind.u8 32 v_7_c11] [AV.ints IntKind.u8 32 v_c12, AV.ints IntKind.u8 32 v_1_c13, AV.ints IntKind.u8 32 v_2_c14, AV.ints IntKind.u8 32 v_3_c15, AV.ints IntKind.u8 32 v_4_c16, AV.ints IntKind.u8 32 v_5_c17, AV.ints IntKind.u8 32 v_6_c18, AV.ints IntKind.u8 32 v_7_c19])
             (cond (v_c4 == v_c3)
              (cond (v_c20.beq 0)
               (cond (v_c21.beq 0)
                (kr0 false)
                (kr0 false))
               (kr0 false))
              (kr0 false))
             (kr0 false))
            (fun _vg1_c31 _v_1_c32 _v_2_c33 => cond (eqVal [AV.ints IntKind.u8 32 v_c4, AV.ints IntKind.u8 32 v_1_c5, AV.ints IntKind.u8 32 v_2_c6, AV.ints IntKind.u8 32 v_3_c7, AV.ints IntKind.u8 32 v_4_c8, AV.ints IntKind.u8 32 v_5_c9, AV.ints IntKind.u8 32 v_6_c10, AV.ints IntKind.u8 32 v_7_c11] [AV.ints IntKind.u8 32 v_c12, AV.ints IntKind.u8 32 v_1_c13, AV.ints IntKind.u8 32 v_2_c14, AV.ints IntKind.u8 32 v_3_c15, AV.ints IntKind.u8 32 v_4_c16, AV.ints IntKind.u8 32 v_5_c17, AV.ints IntKind.u8 32 v_6_c18, AV.ints IntKind.u8 32 v_7_c19])
             (cond (v_c4 == v_c3)
              (cond (v_c20.beq 0)
               (cond (v_c21.beq 0)
                (kr0 false)
                (kr0 false))
               (kr0 false))
              (kr0 false))
             (kr0 false))))
          (fun _vg1_c34 v_1_c35 v_2_c36 => msExport R v_c4 v_1_c5 v_2_c6 v_3_c7 v_4_c8 v_5_c9 v_6_c10 v_7_c11 ([108]) contextN3 context4 1001
           (fun _v_c37 => msExport R v_c4 v_1_c5 v_2_c6 v_3_c7 v_4_c8 v_5_c9 v_6_c10 v_7_c11 ([108]) none (cut none 0 (List.replicate 16385 (0 : Int))) 4
            (fun _v_c38 => cond (eqVal [AV.ints IntKind.u8 32 v_c4, AV.ints IntKind.u8 32 v_1_c5, AV.ints IntKind.u8 32 v_2_c6, AV.ints IntKind.u8 32 v_3_c7, AV.ints IntKind.u8 32 v_4_c8, AV.ints IntKind.u8 32 v_5_c9, AV.ints IntKind.u8 32 v_6_c10, AV.ints IntKind.u8 32 v_7_c11] [AV.ints IntKind.u8 32 v_c12, AV.ints IntKind.u8 32 v_1_c13, AV.ints IntKind.u8 32 v_2_c14, AV.ints IntKind.u8 32 v_3_c15, AV.ints IntKind.u8 32 v_4_c16, AV.ints IntKind.u8 32 v_5_c17, AV.ints IntKind.u8 32 v_6_c18, AV.ints IntKind.u8 32 v_7_c19])
             (cond (v_c4 == v_c3)
              (cond (v_c20.beq 0)
               (cond (v_2_c36.beq 0)
                (cond ([] == toStr v_1_c35)
                 (kr0 false)
                 (kr0 false))
                (kr0 false))
               (kr0 false))
              (kr0 false))
             (kr0 false))
            (fun _vg1_c39 _v_1_c40 _v_2_c41 => cond (eqVal [AV.ints IntKind.u8 32 v_c4, AV.ints IntKind.u8 32 v_1_c5, AV.ints IntKind.u8 32 v_2_c6, AV.ints IntKind.u8 32 v_3_c7, AV.ints IntKind.u8 32 v_4_c8, AV.ints IntKind.u8 32 v_5_c9, AV.ints IntKind.u8 32 v_6_c10, AV.ints IntKind.u8 32 v_7_c11] [AV.ints IntKind.u8 32 v_c12, AV.ints IntKind.u8 32 v_1_c13, AV.ints IntKind.u8 32 v_2_c14, AV.ints IntKind.u8 32 v_3_c15, AV.ints IntKind.u8 32 v_4_c16, AV.ints IntKind.u8 32 v_5_c17, AV.ints IntKind.u8 32 v_6_c18, AV.ints IntKind.u8 32 v_7_c19])
             (cond (v_c4 == v_c3)
              (cond (v_c20.beq 0)
               (cond (v_2_c36.beq 0)
                (cond ([] == toStr v_1_c35)
                 (kr0 false)
                 (kr0 false))
                (kr0 false))
               (kr0 false))
              (kr0 false))
             (kr0 false)))
           (fun _vg1_c42 _v_1_c43 _v_2_c44 => msExport R v_c4 v_1_c5 v_2_c6 v_3_c7 v_4_c8 v_5_c9 v_6_c10 v_7_c11 ([108]) none (cut none 0 (List.replicate 16385 (0 : Int))) 4
            (fun _v_c45 => cond (eqVal [AV.ints IntKind.u8 32 v_c4, AV.ints IntKind.u8 32 v_1_c5, AV.ints IntKind.u8 32 v_2_c6, AV.ints IntKind.u8 32 v_3_c7, AV.ints IntKind.u8 32 v_4_c8, AV.ints IntKind.u8 32 v_5_c9, AV.ints IntKind.u8 32 v_6_c10, AV.ints IntKind.u8 32 v_7_c11] [AV.ints IntKind.u8 32 v_c12, AV.ints IntKind.u8 32 v_1_c13, AV.ints IntKind.u8 32 v_2_c14, AV.ints IntKind.u8 32 v_3_c15, AV.ints IntKind.u8 32 v_4_c16, AV.ints IntKind.u8 32 v_5_c17, AV.ints IntKind.u8 32 v_6_c18, AV.ints IntKind.u8 32 v_7_c19])
             (cond (v_c4 == v_c3)
              (cond (v_c20.beq 0)
               (cond (v_2_c36.beq 0)
                (cond ([] == toStr v_1_c35)
                 (kr0 false)
                 (kr0 false))
                (kr0 false))
               (kr0 false))
              (kr0 false))
             (kr0 false))
            (fun _vg1_c46 _v_1_c47 _v_2_c48 => cond (eqVal [AV.ints IntKind.u8 32 v_c4, AV.ints IntKind.u8 32 v_1_c5, AV.ints IntKind.u8 32 v_2_c6, AV.ints IntKind.u8 32 v_3_c7, AV.ints IntKind.u8 32 v_4_c8, AV.ints IntKind.u8 32 v_5_c9, AV.ints IntKind.u8 32 v_6_c10, AV.ints IntKind.u8 32 v_7_c11] [AV.ints IntKind.u8 32 v_c12, AV.ints IntKind.u8 32 v_1_c13, AV.ints IntKind.u8 32 v_2_c14, AV.ints IntKind.u8 32 v_3_c15, AV.ints IntKind.u8 32 v_4_c16, AV.ints IntKind.u8 32 v_5_c17, AV.ints IntKind.u8 32 v_6_c18, AV.ints IntKind.u8 32 v_7_c19])
             (cond (v_c4 == v_c3)
              (cond (v_c20.beq 0)
               (cond (v_2_c36.beq 0)
                (cond ([] == toStr v_1_c35)
                 (kr0 false)
                 (kr0 false))
                (kr0 false))
               (kr0 false))
              (kr0 false))
             (kr0 false)))))
         (fun _vg1_c49 v_1_c50 v_2_c51 => msExport R v_c12 v_1_c13 v_2_c14 v_3_c15 v_4_c16 v_5_c17 v_6_c18 v_7_c19 ([108]) contextN3 context4 40
          (fun v_c52 => msExport R v_c4 v_1_c5 v_2_c6 v_3_c7 v_4_c8 v_5_c9 v_6_c10 v_7_c11 ([108]) contextN3 context4 1001
           (fun v_c53 => msExport R v_c4 v_1_c5 v_2_c6 v_3_c7 v_4_c8 v_5_c9 v_6_c10 v_7_c11 ([108]) none (cut none 0 (List.replicate 16385 (0 : Int))) 4
            (fun v_c54 => cond (eqVal [AV.ints IntKind.u8 32 v_c4, AV.ints IntKind.u8 32 v_1_c5, AV.ints IntKind.u8 32 v_2_c6, AV.ints IntKind.u8 32 v_3_c7, AV.ints IntKind.u8 32 v_4_c8, AV.ints IntKind.u8 32 v_5_c9, AV.ints IntKind.u8 32 v_6_c10, AV.ints IntKind.u8 32 v_7_c11] [AV.ints IntKind.u8 32 v_c12, AV.ints IntKind.u8 32 v_1_c13, AV.ints IntKind.u8 32 v_2_c14, AV.ints IntKind.u8 32 v_3_c15, AV.ints IntKind.u8 32 v_4_c16, AV.ints IntKind.u8 32 v_5_c17, AV.ints IntKind.u8 32 v_6_c18, AV.ints IntKind.u8 32 v_7_c19])
             (cond (v_c4 == v_c3)
              (cond (v_2_c51.beq 0)
               (cond (v_c52.beq 0)
                (cond (toStr v_1_c50 == [])
                 (cond ((↑v_1_c50.length : Int) == 40)
                  (mNum R v_c53
                   (fun v_c55 => cond (v_c55 == 1)
                    (mNum R v_c54
                     (fun v_c56 => kr0 (v_c56 == 3)))
                    (kr0 false)))
                  (kr0 false))
                 (kr0 false))
                (kr0 false))
               (kr0 false))
              (kr0 false))
             (kr0 false))
            (fun _vg1_c57 _v_1_c58 v_2_c59 => cond (eqVal [AV.ints IntKind.u8 32 v_c4, AV.ints IntKind.u8 32 v_1_c5, AV.ints IntKind.u8 32 v_2_c6, AV.ints IntKind.u8 32 v_3_c7, AV.ints IntKind.u8 32 v_4_c8, AV.ints IntKind.u8 32 v_5_c9, AV.ints IntKind.u8 32 v_6_c10, AV.ints IntKind.u8 32 v_7_c11] [AV.ints IntKind.u8 32 v_c12, AV.ints IntKind.u8 32 v_1_c13, AV.ints IntKind.u8 32 v_2_c14, AV.ints IntKind.u8 32 v_3_c15, AV.ints IntKind.u8 32 v_4_c16, AV.ints IntKind.u8 32 v_5_c17, AV.ints IntKind.u8 32 v_6_c18, AV.ints IntKind.u8 32 v_7_c19])
             (cond (v_c4 == v_c3)
              (cond (v_2_c51.beq 0)
               (cond (v_c52.beq 0)
                (cond (toStr v_1_c50 == [])
                 (cond ((↑v_1_c50.length : Int) == 40)
                  (mNum R v_c53
                   (fun v_c60 => cond (v_c60 == 1)
                    (mNum R v_2_c59
                     (fun v_c61 => kr0 (v_c61 == 3)))
                    (kr0 false)))
                  (kr0 false))
                 (kr0 false))
                (kr0 false))
               (kr0 false))
              (kr0 false))
             (kr0 false)))
           (fun _vg1_c62 _v_1_c63 v_2_c64 => msExport R v_c4 v_1_c5 v_2_c6 v_3_c7 v_4_c8 v_5_c9 v_6_c10 v_7_c11 ([108]) none (cut none 0 (List.replicate 16385 (0 : Int))) 4
            (fun v_c65 => cond (eqVal [AV.ints IntKind.u8 32 v_c4, AV.ints IntKind.u8 32 v_1_c5, AV.ints IntKind.u8 32 v_2_c6, AV.ints IntKind.u8 32 v_3_c7, AV.ints IntKind.u8 32 v_4_c8, AV.ints IntKind.u8 32 v_5_c9, AV.ints IntKind.u8 32 v_6_c10, AV.ints IntKind.u8 32 v_7_c11] [AV.ints IntKind.u8 32 v_c12, AV.ints IntKind.u8 32 v_1_c13, AV.ints IntKind.u8 32 v_2_c14, AV.ints IntKind.u8 32 v_3_c15, AV.ints IntKind.u8 32 v_4_c16, AV.ints IntKind.u8 32 v_5_c17, AV.ints IntKind.u8 32 v_6_c18, AV.ints IntKind.u8 32 v_7_c19])
             (cond (v_c4 == v_c3)
              (cond (v_2_c51.beq 0)
               (cond (v_c52.beq 0)
                (cond (toStr v_1_c50 == [])
                 (cond ((↑v_1_c50.length : Int) == 40)
                  (mNum R v_2_c64
                   (fun v_c66 => cond (v_c66 == 1)
                    (mNum R v_c65
                     (fun v_c67 => kr0 (v_c67 == 3)))
                    (kr0 false)))
                  (kr0 false))
                 (kr0 false))
                (kr0 false))
               (kr0 false))
              (kr0 false))
             (kr0 false))
            (fun _vg1_c68 _v_1_c69 v_2_c70 => cond (eqVal [AV.ints IntKind.u8 32 v_c4, AV.ints IntKind.u8 32 v_1_c5, AV.ints IntKind.u8 32 v_2_c6, AV.ints IntKind.u8 32 v_3_c7, AV.ints IntKind.u8 32 v_4_c8, AV.ints IntKind.u8 32 v_5_c9, AV.ints IntKind.u8 32 v_6_c10, AV.ints IntKind.u8 32 v_7_c11] [AV.ints IntKind.u8 32 v_c12, AV.ints IntKind.u8 32 v_1_c13, AV.ints IntKind.u8 32 v_2_c14, AV.ints IntKind.u8 32 v_3_c15, AV.ints IntKind.u8 32 v_4_c16, AV.ints IntKind.u8 32 v_5_c17, AV.ints IntKind.u8 32 v_6_c18, AV.ints IntKind.u8 32 v_7_c19])
             (cond (v_c4 == v_c3)
              (cond (v_2_c51.beq 0)
               (cond (v_c52.beq 0)
                (cond (toStr v_1_c50 == [])
                 (cond ((↑v_1_c50.length : Int) == 40)
                  (mNum R v_2_c64
                   (fun v_c71 => cond (v_c71 == 1)
                    (mNum R v_2_c70
                     (fun v_c72 => kr0 (v_c72 == 3)))
                    (kr0 false)))
                  (kr0 false))
                 (kr0 false))
                (kr0 false))
               (kr0 false))
              (kr0 false))
             (kr0 false))))
          (fun _vg1_c73 v_1_c74 v_2_c75 => msExport R v_c4 v_1_c5 v_2_c6 v_3_c7 v_4_c8 v_5_c9 v_6_c10 v_7_c11 ([108]) contextN3 context4 1001
           (fun v_c76 => msExport R v_c4 v_1_c5 v_2_c6 v_3_c7 v_4_c8 v_5_c9 v_6_c10 v_7_c11 ([108]) none (cut none 0 (List.replicate 16385 (0 : Int))) 4
            (fun v_c77 => cond (eqVal [AV.ints IntKind.u8 32 v_c4, AV.ints IntKind.u8 32 v_1_c5, AV.ints IntKind.u8 32 v_2_c6, AV.ints IntKind.u8 32 v_3_c7, AV.ints IntKind.u8 32 v_4_c8, AV.ints IntKind.u8 32 v_5_c9, AV.ints IntKind.u8 32 v_6_c10, AV.ints IntKind.u8 32 v_7_c11] [AV.ints IntKind.u8 32 v_c12, AV.ints IntKind.u8 32 v_1_c13, AV.ints IntKind.u8 32 v_2_c14, AV.ints IntKind.u8 32 v_3_c15, AV.ints IntKind.u8 32 v_4_c16, AV.ints IntKind.u8 32 v_5_c17, AV.ints IntKind.u8 32 v_6_c18, AV.ints IntKind.u8 32 v_7_c19])
             (cond (v_c4 == v_c3)
              (cond (v_2_c51.beq 0)
               (cond (v_2_c75.beq 0)
                (cond (toStr v_1_c50 == toStr v_1_c74)
                 (cond ((↑v_1_c50.length : Int) == 40)
                  (mNum R v_c76
                   (fun v_c78 => cond (v_c78 == 1)
                    (mNum R v_c77
                     (fun v_c79 => kr0 (v_c79 == 3)))
                    (kr0 false)))
                  (kr0 false))
                 (kr0 false))
                (kr0 false))
               (kr0 false))
              (kr0 false))
             (kr0 false))
            (fun _vg1_c80 _v_1_c81 v_2_c82 => cond (eqVal [AV.ints IntKind.u8 32 v_c4, AV.ints IntKind.u8 32 v_1_c5, AV.ints IntKind.u8 32 v_2_c6, AV.ints IntKind.u8 32 v_3_c7, AV.ints IntKind.u8 32 v_4_c8, AV.ints IntKind.u8 32 v_5_c9, AV.ints IntKind.u8 32 v_6_c10, AV.ints IntKind.u8 32 v_7_c11] [AV.ints IntKind.u8 32 v_c12, AV.ints IntKind.u8 32 v_1_c13, AV.ints IntKind.u8 32 v_2_c14, AV.ints IntKind.u8 32 v_3_c15, AV.ints IntKind.u8 32 v_4_c16, AV.ints IntKind.u8 32 v_5_c17, AV.ints IntKind.u8 32 v_6_c18, AV.ints IntKind.u8 32 v_7_c19])
             (cond (v_c4 == v_c3)
              (cond (v_2_c51.beq 0)
               (cond (v_2_c75.beq 0)
                (cond (toStr v_1_c50 == toStr v_1_c74)
                 (cond ((↑v_1_c50.length : Int) == 40)
                  (mNum R v_c76
                   (fun v_c83 => cond (v_c83 == 1)
                    (mNum R v_2_c82
                     (fun v_c84 => kr0 (v_c84 == 3)))
                    (kr0 false)))
                  (kr0 false))
                 (kr0 false))
                (kr0 false))
               (kr0 false))
              (kr0 false))
             (kr0 false)))
           (fun _vg1_c85 _v_1_c86 v_2_c87 => msExport R v_c4 v_1_c5 v_2_c6 v_3_c7 v_4_c8 v_5_c9 v_6_c10 v_7_c11 ([108]) none (cut none 0 (List.replicate 16385 (0 : Int))) 4
            (fun v_c88 => cond (eqVal [AV.ints IntKind.u8 32 v_c4, AV.ints IntKind.u8 32 v_1_c5, AV.ints IntKind.u8 32 v_2_c6, AV.ints IntKind.u8 32 v_3_c7, AV.ints IntKind.u8 32 v_4_c8, AV.ints IntKind.u8 32 v_5_c9, AV.ints IntKind.u8 32 v_6_c10, AV.ints IntKind.u8 32 v_7_c11] [AV.ints IntKind.u8 32 v_c12, AV.ints IntKind.u8 32 v_1_c13, AV.ints IntKind.u8 32 v_2_c14, AV.ints IntKind.u8 32 v_3_c15, AV.ints IntKind.u8 32 v_4_c16, AV.ints IntKind.u8 32 v_5_c17, AV.ints IntKind.u8 32 v_6_c18, AV.ints IntKind.u8 32 v_7_c19])
             (cond (v_c4 == v_c3)
              (cond (v_2_c51.beq 0)
               (cond (v_2_c75.beq 0)
                (cond (toStr v_1_c50 == toStr v_1_c74)
                 (cond ((↑v_1_c50.length : Int) == 40)
                  (mNum R v_2_c87
                   (fun v_c89 => cond (v_c89 == 1)
                    (mNum R v_c88
                     (fun v_c90 => kr0 (v_c90 == 3)))
                    (kr0 false)))
                  (kr0 false))
                 (kr0 false))
                (kr0 false))
               (kr0 false))
              (kr0 false))
             (kr0 false))
            (fun _vg1_c91 _v_1_c92 v_2_c93 => cond (eqVal [AV.ints IntKind.u8 32 v_c4, AV.ints IntKind.u8 32 v_1_c5, AV.ints IntKind.u8 32 v_2_c6, AV.ints IntKind.u8 32 v_3_c7, AV.ints IntKind.u8 32 v_4_c8, AV.ints IntKind.u8 32 v_5_c9, AV.ints IntKind.u8 32 v_6_c10, AV.ints IntKind.u8 32 v_7_c11] [AV.ints IntKind.u8 32 v_c12, AV.ints IntKind.u8 32 v_1_c13, AV.ints IntKind.u8 32 v_2_c14, AV.ints IntKind.u8 32 v_3_c15, AV.ints IntKind.u8 32 v_4_c16, AV.ints IntKind.u8 32 v_5_c17, AV.ints IntKind.u8 32 v_6_c18, AV.ints IntKind.u8 32 v_7_c19])
             (cond (v_c4 == v_c3)
              (cond (v_2_c51.beq 0)
               (cond (v_2_c75.beq 0)
                (cond (toStr v_1_c50 == toStr v_1_c74)
                 (cond ((↑v_1_c50.length : Int) == 40)
                  (mNum R v_2_c87
                   (fun v_c94 => cond (v_c94 == 1)
                    (mNum R v_2_c93
                     (fun v_c95 => kr0 (v_c95 == 3)))
                    (kr0 false)))
                  (kr0 false))
                 (kr0 false))
                (kr0 false))
               (kr0 false))
              (kr0 false))
             (kr0 false)))))))))))
theorem tree (malive22 : alive22.Ty) (msJoiner : sJoiner.Ty) (msOf : sOf.Ty) (msExport : sExport.Ty) (mNum : Num.Ty) {R : Type} (N : Nat) (κ : AV → List Blk → Option R) (init1 : List Int) (way2 : List Int) (contextN3 : Option Bool) (context4 : List Int) : evF (g malive22 msJoiner msOf msExport mNum) an N Tryd.f5 [AV.ints IntKind.u8 32 init1, AV.ints IntKind.u8 32 way2, AV.isl IntKind.u8 contextN3 context4] [] κ =
  malive22 R
   (fun v_c2 => cond (!v_c2)
    (κ (AV.bool false) [])
    (cond (decide ((↑context4.length : Int) > 16384))
     (κ (AV.bool true) [])
     (msJoiner R init1 way2 contextN3 context4
      (fun v_c3 => msOf R v_c3 contextN3 context4
       (fun v_c4 v_1_c5 v_2_c6 v_3_c7 v_4_c8 v_5_c9 v_6_c10 v_7_c11 => msOf R v_c3 contextN3 context4
        (fun v_c12 v_1_c13 v_2_c14 v_3_c15 v_4_c16 v_5_c17 v_6_c18 v_7_c19 => msExport R v_c4 v_1_c5 v_2_c6 v_3_c7 v_4_c8 v_5_c9 v_6_c10 v_7_c11 ([108]) contextN3 context4 40
         (fun v_c20 => msExport R v_c12 v_1_c13 v_2_c14 v_3_c15 v_4_c16 v_5_c17 v_6_c18 v_7_c19 ([108]) contextN3 context4 40
          (fun v_c21 => msExport R v_c4 v_1_c5 v_2_c6 v_3_c7 v_4_c8 v_5_c9 v_6_c10 v_7_c11 ([108]) contextN3 context4 1001
           (fun _v_c22 => msExport R v_c4 v_1_c5 v_2_c6 v_3_c7 v_4_c8 v_5_c9 v_6_c10 v_7_c11 ([108]) none (cut none 0 (List.replicate 16385 (0 : Int))) 4
            (fun _v_c23 => cond (eqVal [AV.ints IntKind.u8 32 v_c4, AV.ints IntKind.u8 32 v_1_c5, AV.ints IntKind.u8 32 v_2_c6, AV.ints IntKind.u8 32 v_3_c7, AV.ints IntKind.u8 32 v_4_c8, AV.ints IntKind.u8 32 v_5_c9, AV.ints IntKind.u8 32 v_6_c10, AV.ints IntKind.u8 32 v_7_c11] [AV.ints IntKind.u8 32 v_c12, AV.ints IntKind.u8 32 v_1_c13, AV.ints IntKind.u8 32 v_2_c14, AV.ints IntKind.u8 32 v_3_c15, AV.ints IntKind.u8 32 v_4_c16, AV.ints IntKind.u8 32 v_5_c17, AV.ints IntKind.u8 32 v_6_c18, AV.ints IntKind.u8 32 v_7_c19])
             (cond (v_c4 == v_c3)
              (cond (v_c20.beq 0)
               (cond (v_c21.beq 0)
                (κ (AV.bool false) [])
                (κ (AV.bool false) []))
               (κ (AV.bool false) []))
              (κ (AV.bool false) []))
             (κ (AV.bool false) []))
            (fun _vg1_c24 _v_1_c25 _v_2_c26 => cond (eqVal [AV.ints IntKind.u8 32 v_c4, AV.ints IntKind.u8 32 v_1_c5, AV.ints IntKind.u8 32 v_2_c6, AV.ints IntKind.u8 32 v_3_c7, AV.ints IntKind.u8 32 v_4_c8, AV.ints IntKind.u8 32 v_5_c9, AV.ints IntKind.u8 32 v_6_c10, AV.ints IntKind.u8 32 v_7_c11] [AV.ints IntKind.u8 32 v_c12, AV.ints IntKind.u8 32 v_1_c13, AV.ints IntKind.u8 32 v_2_c14, AV.ints IntKind.u8 32 v_3_c15, AV.ints IntKind.u8 32 v_4_c16, AV.ints IntKind.u8 32 v_5_c17, AV.ints IntKind.u8 32 v_6_c18, AV.ints IntKind.u8 32 v_7_c19])
             (cond (v_c4 == v_c3)
              (cond (v_c20.beq 0)
               (cond (v_c21.beq 0)
                (κ (AV.bool false) [])
                (κ (AV.bool false) []))
               (κ (AV.bool false) []))
              (κ (AV.bool false) []))
             (κ (AV.bool false) [])))
           (fun _vg1_c27 _v_1_c28 _v_2_c29 => msExport R v_c4 v_1_c5 v_2_c6 v_3_c7 v_4_c8 v_5_c9 v_6_c10 v_7_c11 ([108]) none (cut none 0 (List.replicate 16385 (0 : Int))) 4
            (fun _v_c30 => cond (eqVal [AV.ints IntKind.u8 32 v_c4, AV.ints IntKind.u8 32 v_1_c5, AV.ints IntKind.u8 32 v_2_c6, AV.ints IntKind.u8 32 v_3_c7, AV.ints IntKind.u8 32 v_4_c8, AV.ints IntKind.u8 32 v_5_c9, AV.ints IntKind.u8 32 v_6_c10, AV.ints IntKind.u8 32 v_7_c11] [AV.ints IntKind.u8 32 v_c12, AV.ints IntKind.u8 32 v_1_c13, AV.ints IntKind.u8 32 v_2_c14, AV.ints IntKind.u8 32 v_3_c15, AV.ints IntKind.u8 32 v_4_c16, AV.ints IntKind.u8 32 v_5_c17, AV.ints IntKind.u8 32 v_6_c18, AV.ints IntKind.u8 32 v_7_c19])
             (cond (v_c4 == v_c3)
              (cond (v_c20.beq 0)
               (cond (v_c21.beq 0)
                (κ (AV.bool false) [])
                (κ (AV.bool false) []))
               (κ (AV.bool false) []))
              (κ (AV.bool false) []))
             (κ (AV.bool false) []))
            (fun _vg1_c31 _v_1_c32 _v_2_c33 => cond (eqVal [AV.ints IntKind.u8 32 v_c4, AV.ints IntKind.u8 32 v_1_c5, AV.ints IntKind.u8 32 v_2_c6, AV.ints IntKind.u8 32 v_3_c7, AV.ints IntKind.u8 32 v_4_c8, AV.ints IntKind.u8 32 v_5_c9, AV.ints IntKind.u8 32 v_6_c10, AV.ints IntKind.u8 32 v_7_c11] [AV.ints IntKind.u8 32 v_c12, AV.ints IntKind.u8 32 v_1_c13, AV.ints IntKind.u8 32 v_2_c14, AV.ints IntKind.u8 32 v_3_c15, AV.ints IntKind.u8 32 v_4_c16, AV.ints IntKind.u8 32 v_5_c17, AV.ints IntKind.u8 32 v_6_c18, AV.ints IntKind.u8 32 v_7_c19])
             (cond (v_c4 == v_c3)
              (cond (v_c20.beq 0)
               (cond (v_c21.beq 0)
                (κ (AV.bool false) [])
                (κ (AV.bool false) []))
               (κ (AV.bool false) []))
              (κ (AV.bool false) []))
             (κ (AV.bool false) []))))
          (fun _vg1_c34 v_1_c35 v_2_c36 => msExport R v_c4 v_1_c5 v_2_c6 v_3_c7 v_4_c8 v_5_c9 v_6_c10 v_7_c11 ([108]) contextN3 context4 1001
           (fun _v_c37 => msExport R v_c4 v_1_c5 v_2_c6 v_3_c7 v_4_c8 v_5_c9 v_6_c10 v_7_c11 ([108]) none (cut none 0 (List.replicate 16385 (0 : Int))) 4
            (fun _v_c38 => cond (eqVal [AV.ints IntKind.u8 32 v_c4, AV.ints IntKind.u8 32 v_1_c5, AV.ints IntKind.u8 32 v_2_c6, AV.ints IntKind.u8 32 v_3_c7, AV.ints IntKind.u8 32 v_4_c8, AV.ints IntKind.u8 32 v_5_c9, AV.ints IntKind.u8 32 v_6_c10, AV.ints IntKind.u8 32 v_7_c11] [AV.ints IntKind.u8 32 v_c12, AV.ints IntKind.u8 32 v_1_c13, AV.ints IntKind.u8 32 v_2_c14, AV.ints IntKind.u8 32 v_3_c15, AV.ints IntKind.u8 32 v_4_c16, AV.ints IntKind.u8 32 v_5_c17, AV.ints IntKind.u8 32 v_6_c18, AV.ints IntKind.u8 32 v_7_c19])
             (cond (v_c4 == v_c3)
              (cond (v_c20.beq 0)
               (cond (v_2_c36.beq 0)
                (cond ([] == toStr v_1_c35)
                 (κ (AV.bool false) [])
                 (κ (AV.bool false) []))
                (κ (AV.bool false) []))
               (κ (AV.bool false) []))
              (κ (AV.bool false) []))
             (κ (AV.bool false) []))
            (fun _vg1_c39 _v_1_c40 _v_2_c41 => cond (eqVal [AV.ints IntKind.u8 32 v_c4, AV.ints IntKind.u8 32 v_1_c5, AV.ints IntKind.u8 32 v_2_c6, AV.ints IntKind.u8 32 v_3_c7, AV.ints IntKind.u8 32 v_4_c8, AV.ints IntKind.u8 32 v_5_c9, AV.ints IntKind.u8 32 v_6_c10, AV.ints IntKind.u8 32 v_7_c11] [AV.ints IntKind.u8 32 v_c12, AV.ints IntKind.u8 32 v_1_c13, AV.ints IntKind.u8 32 v_2_c14, AV.ints IntKind.u8 32 v_3_c15, AV.ints IntKind.u8 32 v_4_c16, AV.ints IntKind.u8 32 v_5_c17, AV.ints IntKind.u8 32 v_6_c18, AV.ints IntKind.u8 32 v_7_c19])
             (cond (v_c4 == v_c3)
              (cond (v_c20.beq 0)
               (cond (v_2_c36.beq 0)
                (cond ([] == toStr v_1_c35)
                 (κ (AV.bool false) [])
                 (κ (AV.bool false) []))
                (κ (AV.bool false) []))
               (κ (AV.bool false) []))
              (κ (AV.bool false) []))
             (κ (AV.bool false) [])))
           (fun _vg1_c42 _v_1_c43 _v_2_c44 => msExport R v_c4 v_1_c5 v_2_c6 v_3_c7 v_4_c8 v_5_c9 v_6_c10 v_7_c11 ([108]) none (cut none 0 (List.replicate 16385 (0 : Int))) 4
            (fun _v_c45 => cond (eqVal [AV.ints IntKind.u8 32 v_c4, AV.ints IntKind.u8 32 v_1_c5, AV.ints IntKind.u8 32 v_2_c6, AV.ints IntKind.u8 32 v_3_c7, AV.ints IntKind.u8 32 v_4_c8, AV.ints IntKind.u8 32 v_5_c9, AV.ints IntKind.u8 32 v_6_c10, AV.ints IntKind.u8 32 v_7_c11] [AV.ints IntKind.u8 32 v_c12, AV.ints IntKind.u8 32 v_1_c13, AV.ints IntKind.u8 32 v_2_c14, AV.ints IntKind.u8 32 v_3_c15, AV.ints IntKind.u8 32 v_4_c16, AV.ints IntKind.u8 32 v_5_c17, AV.ints IntKind.u8 32 v_6_c18, AV.ints IntKind.u8 32 v_7_c19])
             (cond (v_c4 == v_c3)
              (cond (v_c20.beq 0)
               (cond (v_2_c36.beq 0)
                (cond ([] == toStr v_1_c35)
                 (κ (AV.bool false) [])
                 (κ (AV.bool false) []))
                (κ (AV.bool false) []))
               (κ (AV.bool false) []))
              (κ (AV.bool false) []))
             (κ (AV.bool false) []))
            (fun _vg1_c46 _v_1_c47 _v_2_c48 => cond (eqVal [AV.ints IntKind.u8 32 v_c4, AV.ints IntKind.u8 32 v_1_c5, AV.ints IntKind.u8 32 v_2_c6, AV.ints IntKind.u8 32 v_3_c7, AV.ints IntKind.u8 32 v_4_c8, AV.ints IntKind.u8 32 v_5_c9, AV.ints IntKind.u8 32 v_6_c10, AV.ints IntKind.u8 32 v_7_c11] [AV.ints IntKind.u8 32 v_c12, AV.ints IntKind.u8 32 v_1_c13, AV.ints IntKind.u8 32 v_2_c14, AV.ints IntKind.u8 32 v_3_c15, AV.ints IntKind.u8 32 v_4_c16, AV.ints IntKind.u8 32 v_5_c17, AV.ints IntKind.u8 32 v_6_c18, AV.ints IntKind.u8 32 v_7_c19])
             (cond (v_c4 == v_c3)
              (cond (v_c20.beq 0)
               (cond (v_2_c36.beq 0)
                (cond ([] == toStr v_1_c35)
                 (κ (AV.bool false) [])
                 (κ (AV.bool false) []))
                (κ (AV.bool false) []))
               (κ (AV.bool false) []))
              (κ (AV.bool false) []))
             (κ (AV.bool false) [])))))
         (fun _vg1_c49 v_1_c50 v_2_c51 => msExport R v_c12 v_1_c13 v_2_c14 v_3_c15 v_4_c16 v_5_c17 v_6_c18 v_7_c19 ([108]) contextN3 context4 40
          (fun v_c52 => msExport R v_c4 v_1_c5 v_2_c6 v_3_c7 v_4_c8 v_5_c9 v_6_c10 v_7_c11 ([108]) contextN3 context4 1001
           (fun v_c53 => msExport R v_c4 v_1_c5 v_2_c6 v_3_c7 v_4_c8 v_5_c9 v_6_c10 v_7_c11 ([108]) none (cut none 0 (List.replicate 16385 (0 : Int))) 4
            (fun v_c54 => cond (eqVal [AV.ints IntKind.u8 32 v_c4, AV.ints IntKind.u8 32 v_1_c5, AV.ints IntKind.u8 32 v_2_c6, AV.ints IntKind.u8 32 v_3_c7, AV.ints IntKind.u8 32 v_4_c8, AV.ints IntKind.u8 32 v_5_c9, AV.ints IntKind.u8 32 v_6_c10, AV.ints IntKind.u8 32 v_7_c11] [AV.ints IntKind.u8 32 v_c12, AV.ints IntKind.u8 32 v_1_c13, AV.ints IntKind.u8 32 v_2_c14, AV.ints IntKind.u8 32 v_3_c15, AV.ints IntKind.u8 32 v_4_c16, AV.ints IntKind.u8 32 v_5_c17, AV.ints IntKind.u8 32 v_6_c18, AV.ints IntKind.u8 32 v_7_c19])
             (cond (v_c4 == v_c3)
              (cond (v_2_c51.beq 0)
               (cond (v_c52.beq 0)
                (cond (toStr v_1_c50 == [])
                 (cond ((↑v_1_c50.length : Int) == 40)
                  (mNum R v_c53
                   (fun v_c55 => cond (v_c55 == 1)
                    (mNum R v_c54
                     (fun v_c56 => κ (AV.bool (v_c56 == 3)) []))
                    (κ (AV.bool false) [])))
                  (κ (AV.bool false) []))
                 (κ (AV.bool false) []))
                (κ (AV.bool false) []))
               (κ (AV.bool false) []))
              (κ (AV.bool false) []))
             (κ (AV.bool false) []))
            (fun _vg1_c57 _v_1_c58 v_2_c59 => cond (eqVal [AV.ints IntKind.u8 32 v_c4, AV.ints IntKind.u8 32 v_1_c5, AV.ints IntKind.u8 32 v_2_c6, AV.ints IntKind.u8 32 v_3_c7, AV.ints IntKind.u8 32 v_4_c8, AV.ints IntKind.u8 32 v_5_c9, AV.ints IntKind.u8 32 v_6_c10, AV.ints IntKind.u8 32 v_7_c11] [AV.ints IntKind.u8 32 v_c12, AV.ints IntKind.u8 32 v_1_c13, AV.ints IntKind.u8 32 v_2_c14, AV.ints IntKind.u8 32 v_3_c15, AV.ints IntKind.u8 32 v_4_c16, AV.ints IntKind.u8 32 v_5_c17, AV.ints IntKind.u8 32 v_6_c18, AV.ints IntKind.u8 32 v_7_c19])
             (cond (v_c4 == v_c3)
              (cond (v_2_c51.beq 0)
               (cond (v_c52.beq 0)
                (cond (toStr v_1_c50 == [])
                 (cond ((↑v_1_c50.length : Int) == 40)
                  (mNum R v_c53
                   (fun v_c60 => cond (v_c60 == 1)
                    (mNum R v_2_c59
                     (fun v_c61 => κ (AV.bool (v_c61 == 3)) []))
                    (κ (AV.bool false) [])))
                  (κ (AV.bool false) []))
                 (κ (AV.bool false) []))
                (κ (AV.bool false) []))
               (κ (AV.bool false) []))
              (κ (AV.bool false) []))
             (κ (AV.bool false) [])))
           (fun _vg1_c62 _v_1_c63 v_2_c64 => msExport R v_c4 v_1_c5 v_2_c6 v_3_c7 v_4_c8 v_5_c9 v_6_c10 v_7_c11 ([108]) none (cut none 0 (List.replicate 16385 (0 : Int))) 4
            (fun v_c65 => cond (eqVal [AV.ints IntKind.u8 32 v_c4, AV.ints IntKind.u8 32 v_1_c5, AV.ints IntKind.u8 32 v_2_c6, AV.ints IntKind.u8 32 v_3_c7, AV.ints IntKind.u8 32 v_4_c8, AV.ints IntKind.u8 32 v_5_c9, AV.ints IntKind.u8 32 v_6_c10, AV.ints IntKind.u8 32 v_7_c11] [AV.ints IntKind.u8 32 v_c12, AV.ints IntKind.u8 32 v_1_c13, AV.ints IntKind.u8 32 v_2_c14, AV.ints IntKind.u8 32 v_3_c15, AV.ints IntKind.u8 32 v_4_c16, AV.ints IntKind.u8 32 v_5_c17, AV.ints IntKind.u8 32 v_6_c18, AV.ints IntKind.u8 32 v_7_c19])
             (cond (v_c4 == v_c3)
              (cond (v_2_c51.beq 0)
               (cond (v_c52.beq 0)
                (cond (toStr v_1_c50 == [])
                 (cond ((↑v_1_c50.length : Int) == 40)
                  (mNum R v_2_c64
                   (fun v_c66 => cond (v_c66 == 1)
                    (mNum R v_c65
                     (fun v_c67 => κ (AV.bool (v_c67 == 3)) []))
                    (κ (AV.bool false) [])))
                  (κ (AV.bool false) []))
                 (κ (AV.bool false) []))
                (κ (AV.bool false) []))
               (κ (AV.bool false) []))
              (κ (AV.bool false) []))
             (κ (AV.bool false) []))
            (fun _vg1_c68 _v_1_c69 v_2_c70 => cond (eqVal [AV.ints IntKind.u8 32 v_c4, AV.ints IntKind.u8 32 v_1_c5, AV.ints IntKind.u8 32 v_2_c6, AV.ints IntKind.u8 32 v_3_c7, AV.ints IntKind.u8 32 v_4_c8, AV.ints IntKind.u8 32 v_5_c9, AV.ints IntKind.u8 32 v_6_c10, AV.ints IntKind.u8 32 v_7_c11] [AV.ints IntKind.u8 32 v_c12, AV.ints IntKind.u8 32 v_1_c13, AV.ints IntKind.u8 32 v_2_c14, AV.ints IntKind.u8 32 v_3_c15, AV.ints IntKind.u8 32 v_4_c16, AV.ints IntKind.u8 32 v_5_c17, AV.ints IntKind.u8 32 v_6_c18, AV.ints IntKind.u8 32 v_7_c19])
             (cond (v_c4 == v_c3)
              (cond (v_2_c51.beq 0)
               (cond (v_c52.beq 0)
                (cond (toStr v_1_c50 == [])
                 (cond ((↑v_1_c50.length : Int) == 40)
                  (mNum R v_2_c64
                   (fun v_c71 => cond (v_c71 == 1)
                    (mNum R v_2_c70
                     (fun v_c72 => κ (AV.bool (v_c72 == 3)) []))
                    (κ (AV.bool false) [])))
                  (κ (AV.bool false) []))
                 (κ (AV.bool false) []))
                (κ (AV.bool false) []))
               (κ (AV.bool false) []))
              (κ (AV.bool false) []))
             (κ (AV.bool false) []))))
          (fun _vg1_c73 v_1_c74 v_2_c75 => msExport R v_c4 v_1_c5 v_2_c6 v_3_c7 v_4_c8 v_5_c9 v_6_c10 v_7_c11 ([108]) contextN3 context4 1001
           (fun v_c76 => msExport R v_c4 v_1_c5 v_2_c6 v_3_c7 v_4_c8 v_5_c9 v_6_c10 v_7_c11 ([108]) none (cut none 0 (List.replicate 16385 (0 : Int))) 4
            (fun v_c77 => cond (eqVal [AV.ints IntKind.u8 32 v_c4, AV.ints IntKind.u8 32 v_1_c5, AV.ints IntKind.u8 32 v_2_c6, AV.ints IntKind.u8 32 v_3_c7, AV.ints IntKind.u8 32 v_4_c8, AV.ints IntKind.u8 32 v_5_c9, AV.ints IntKind.u8 32 v_6_c10, AV.ints IntKind.u8 32 v_7_c11] [AV.ints IntKind.u8 32 v_c12, AV.ints IntKind.u8 32 v_1_c13, AV.ints IntKind.u8 32 v_2_c14, AV.ints IntKind.u8 32 v_3_c15, AV.ints IntKind.u8 32 v_4_c16, AV.ints IntKind.u8 32 v_5_c17, AV.ints IntKind.u8 32 v_6_c18, AV.ints IntKind.u8 32 v_7_c19])
             (cond (v_c4 == v_c3)
              (cond (v_2_c51.beq 0)
               (cond (v_2_c75.beq 0)
                (cond (toStr v_1_c50 == toStr v_1_c74)
                 (cond ((↑v_1_c50.length : Int) == 40)
                  (mNum R v_c76
                   (fun v_c78 => cond (v_c78 == 1)
                    (mNum R v_c77
                     (fun v_c79 => κ (AV.bool (v_c79 == 3)) []))
                    (κ (AV.bool false) [])))
                  (κ (AV.bool false) []))
                 (κ (AV.bool false) []))
                (κ (AV.bool false) []))
               (κ (AV.bool false) []))
              (κ (AV.bool false) []))
             (κ (AV.bool false) []))
            (fun _vg1_c80 _v_1_c81 v_2_c82 => cond (eqVal [AV.ints IntKind.u8 32 v_c4, AV.ints IntKind.u8 32 v_1_c5, AV.ints IntKind.u8 32 v_2_c6, AV.ints IntKind.u8 32 v_3_c7, AV.ints IntKind.u8 32 v_4_c8, AV.ints IntKind.u8 32 v_5_c9, AV.ints IntKind.u8 32 v_6_c10, AV.ints IntKind.u8 32 v_7_c11] [AV.ints IntKind.u8 32 v_c12, AV.ints IntKind.u8 32 v_1_c13, AV.ints IntKind.u8 32 v_2_c14, AV.ints IntKind.u8 32 v_3_c15, AV.ints IntKind.u8 32 v_4_c16, AV.ints IntKind.u8 32 v_5_c17, AV.ints IntKind.u8 32 v_6_c18, AV.ints IntKind.u8 32 v_7_c19])
             (cond (v_c4 == v_c3)
              (cond (v_2_c51.beq 0)
               (cond (v_2_c75.beq 0)
                (cond (toStr v_1_c50 == toStr v_1_c74)
                 (cond ((↑v_1_c50.length : Int) == 40)
                  (mNum R v_c76
                   (fun v_c83 => cond (v_c83 == 1)
                    (mNum R v_2_c82
                     (fun v_c84 => κ (AV.bool (v_c84 == 3)) []))
                    (κ (AV.bool false) [])))
                  (κ (AV.bool false) []))
                 (κ (AV.bool false) []))
                (κ (AV.bool false) []))
               (κ (AV.bool false) []))
              (κ (AV.bool false) []))
             (κ (AV.bool false) [])))
           (fun _vg1_c85 _v_1_c86 v_2_c87 => msExport R v_c4 v_1_c5 v_2_c6 v_3_c7 v_4_c8 v_5_c9 v_6_c10 v_7_c11 ([108]) none (cut none 0 (List.replicate 16385 (0 : Int))) 4
            (fun v_c88 => cond (eqVal [AV.ints IntKind.u8 32 v_c4, AV.ints IntKind.u8 32 v_1_c5, AV.ints IntKind.u8 32 v_2_c6, AV.ints IntKind.u8 32 v_3_c7, AV.ints IntKind.u8 32 v_4_c8, AV.ints IntKind.u8 32 v_5_c9, AV.ints IntKind.u8 32 v_6_c10, AV.ints IntKind.u8 32 v_7_c11] [AV.ints IntKind.u8 32 v_c12, AV.ints IntKind.u8 32 v_1_c13, AV.ints IntKind.u8 32 v_2_c14, AV.ints IntKind.u8 32 v_3_c15, AV.ints IntKind.u8 32 v_4_c16, AV.ints IntKind.u8 32 v_5_c17, AV.ints IntKind.u8 32 v_6_c18, AV.ints IntKind.u8 32 v_7_c19])
             (cond (v_c4 == v_c3)
              (cond (v_2_c51.beq 0)
               (cond (v_2_c75.beq 0)
                (cond (toStr v_1_c50 == toStr v_1_c74)
                 (cond ((↑v_1_c50.length : Int) == 40)
                  (mNum R v_2_c87
                   (fun v_c89 => cond (v_c89 == 1)
                    (mNum R v_c88
                     (fun v_c90 => κ (AV.bool (v_c90 == 3)) []))
                    (κ (AV.bool false) [])))
                  (κ (AV.bool false) []))
                 (κ (AV.bool false) []))
                (κ (AV.bool false) []))
               (κ (AV.bool false) []))
              (κ (AV.bool false) []))
             (κ (AV.bool false) []))
            (fun _vg1_c91 _v_1_c92 v_2_c93 => cond (eqVal [AV.ints IntKind.u8 32 v_c4, AV.ints IntKind.u8 32 v_1_c5, AV.ints IntKind.u8 32 v_2_c6, AV.ints IntKind.u8 32 v_3_c7, AV.ints IntKind.u8 32 v_4_c8, AV.ints IntKind.u8 32 v_5_c9, AV.ints IntKind.u8 32 v_6_c10, AV.ints IntKind.u8 32 v_7_c11] [AV.ints IntKind.u8 32 v_c12, AV.ints IntKind.u8 32 v_1_c13, AV.ints IntKind.u8 32 v_2_c14, AV.ints IntKind.u8 32 v_3_c15, AV.ints IntKind.u8 32 v_4_c16, AV.ints IntKind.u8 32 v_5_c17, AV.ints IntKind.u8 32 v_6_c18, AV.ints IntKind.u8 32 v_7_c19])
             (cond (v_c4 == v_c3)
              (cond (v_2_c51.beq 0)
               (cond (v_2_c75.beq 0)
                (cond (toStr v_1_c50 == toStr v_1_c74)
                 (cond ((↑v_1_c50.length : Int) == 40)
                  (mNum R v_2_c87
                   (fun v_c94 => cond (v_c94 == 1)
                    (mNum R v_2_c93
                     (fun v_c95 => κ (AV.bool (v_c95 == 3)) []))
                    (κ (AV.bool false) [])))
                  (κ (AV.bool false) []))
                 (κ (AV.bool false) []))
                (κ (AV.bool false) []))
               (κ (AV.bool false) []))
              (κ (AV.bool false) []))
             (κ (AV.bool false) []))))))))))) := by kernel_rfl
theorem eq (malive22 : alive22.Ty) (msJoiner : sJoiner.Ty) (msOf : sOf.Ty) (msExport : sExport.Ty) (mNum : Num.Ty) {R : Type} (N : Nat) (κ : AV → List Blk → Option R) (init1 : List Int) (way2 : List Int) (contextN3 : Option Bool) (context4 : List Int) : evF (g malive22 msJoiner msOf msExport mNum) an N Tryd.f5 [AV.ints IntKind.u8 32 init1, AV.ints IntKind.u8 32 way2, AV.isl IntKind.u8 contextN3 context4] [] κ =
  m malive22 msJoiner msOf msExport mNum N init1 way2 contextN3 context4 (fun v => κ (AV.bool v) []) := by
  rw [tree]
  kernel_rfl
abbrev Ty : Type 1 := ∀ R : Type, (List Int) → (List Int) → (Option Bool) → (List Int) → (Bool → Option R) → Option R
def con (f : Ty) : Con := fun R args bs κ => match args, bs with
  | [AV.ints IntKind.u8 32 init1, AV.ints IntKind.u8 32 way2, AV.isl IntKind.u8 contextN3 context4], [] => f R init1 way2 contextN3 context4 (fun v => κ (AV.bool v) [])
  | _, _ => none
theorem con_eq (f : Ty) (R : Type) (κ : AV → List Blk → Option R) (init1 : List Int) (way2 : List Int) (contextN3 : Option Bool) (context4 : List Int) : con f R [AV.ints IntKind.u8 32 init1, AV.ints IntKind.u8 32 way2, AV.isl IntKind.u8 contextN3 context4] [] κ = f R init1 way2 contextN3 context4 (fun v => κ (AV.bool v) []) := rfl
noncomputable def M (N : Nat) : Ty := fun R init1 way2 contextN3 context4 kr0 => m (alive22.M N) (sJoiner.M N) (sOf.M N) (sExport.M N) (Num.M N) (R := R) N init1 way2 contextN3 context4 kr0
def gts : List (Nat × AV) := [(0, .err 1), (1, .err 3), (2, .err 2), (3, .err 4), (4, .err 5), (5, .err 6), (6, .err 7), (7, .err 8), (8, .err 9), (9, .err 10), (10, .err 11), (11, .err 12), (12, .err 13), (13, .err 14), (14, .err 15), (15, .err 16), (16, .err 17), (17, .err 18), (18, .err 19), (19, .ints .u32 64 [1116352408, 1899447441, 3049323471, 3921009573, 961987163, 1508970993, 2453635748, 2870763221, 3624381080, 310598401, 607225278, 1426881987, 1925078388, 2162078206, 2614888103, 3248222580, 3835390401, 4022224774, 264347078, 604807628, 770255983, 1249150122, 1555081692, 1996064986, 2554220882, 2821834349, 2952996808, 3210313671, 3336571891, 3584528711, 113926993, 338241895, 666307205, 773529912, 1294757372, 1396182291, 1695183700, 1986661051, 2177026350, 2456956037, 2730485921, 2820302411, 3259730800, 3345764771, 3516065817, 3600352804, 4094571909, 275423344, 430227734, 506948616, 659060556, 883997877, 958139571, 1322822218, 1537002063, 1747873779, 1955562222, 2024104815, 2227730452, 2361852424, 2428436474, 2756734187, 3204031479, 3329325298])]
theorem gok (N : Nat) : GOk (g (alive22.M N) (sJoiner.M N) (sOf.M N) (sExport.M N) (Num.M N)) := giD_ok hm (by intro p hp; cases hp) (gtL_ok (by decide)) (ovL_ok (by
    intro p hp
    simp only [List.mem_cons, List.not_mem_nil, or_false] at hp
    rcases hp with rfl | rfl | rfl | rfl | rfl
    · exact ⟨(alive22.ok N).gt (gtL_sub (by repeat (first | exact subG_nil _ | refine subG_cons (by kernel_rfl) ?_))) (gtL_ok (by decide)), _, Tryd.func7, by kernel_rfl, by kernel_rfl⟩
    · exact ⟨(sJoiner.ok N).gt (gtL_sub (by repeat (first | exact subG_nil _ | refine subG_cons (by kernel_rfl) ?_))) (gtL_ok (by decide)), _, Tryd.func8, by kernel_rfl, by kernel_rfl⟩
    · exact ⟨(sOf.ok N).gt (gtL_sub (by repeat (first | exact subG_nil _ | refine subG_cons (by kernel_rfl) ?_))) (gtL_ok (by decide)), _, Tryd.func10, by kernel_rfl, by kernel_rfl⟩
    · exact ⟨(sExport.ok N).gt (gtL_sub (by repeat (first | exact subG_nil _ | refine subG_cons (by kernel_rfl) ?_))) (gtL_ok (by decide)), _, Tryd.func15, by kernel_rfl, by kernel_rfl⟩
    · exact ⟨(Num.ok N).gt (gtL_sub (by repeat (first | exact subG_nil _ | refine subG_cons (by kernel_rfl) ?_))) (gtL_ok (by decide)), _, Tryd.func16, by kernel_rfl, by kernel_rfl⟩
)) 1
theorem ok (N : Nat) : SoundC Tryd.prog (gtL gts) 5 (con (M N)) := by
  refine SoundC.mono (evF_ok (gok N) hm an N Tryd.func5) fun R args bs κ r h => ?_
  unfold con at h
  split at h
  · exact (eq (alive22.M N) (sJoiner.M N) (sOf.M N) (sExport.M N) (Num.M N) N κ _ _ _ _).trans h
  · cases h
end ScheduleSame

end Go.Proofs.YtjaekdcbjfgcpaaDoor.fn
