/- What the bytes' law computes, with the proof; printed by a program. -/
import Derived.Test.YtllnbcibleeogaaDoorProg
import Derived.Test.YtllnbcibleeogaaDoorEv4
import Derived.Test.YtllnbcibleeogaaDoorFnBytes
namespace Go.Proofs.YtllnbcibleeogaaDoor.fn
open Go Go.Proofs Go.Ev

/-! ### Tryd.f7: WordsBytes -/
namespace WordsBytes
def an : Anns := ⟨fun i => findA i [], fun i => findA i [], false, fun _ => none⟩
noncomputable def g (malive01 : alive01.Ty) (mPutLittle : PutLittle.Ty) (mPutBig : PutBig.Ty) (mNum : Num.Ty) (mrLittle : rLittle.Ty) (mrReverse : rReverse.Ty) (mBytes : Bytes.Ty) (mBig : Big.Ty) (mwLittle : wLittle.Ty) (mKept : Kept.Ty) (mrBig : rBig.Ty) : Gi := giW [26] (giD Tryd.prog (gtL [(0, .err 4), (1, .err 1), (2, .err 2), (3, .err 3), (4, .err 5), (5, .err 6), (6, .err 7), (7, .err 8), (8, .err 9), (9, .err 10), (10, .err 11), (11, .err 12), (12, .err 13), (13, .err 14), (14, .err 15), (15, .err 16), (16, .err 17), (17, .err 18), (18, .err 19)]) (fun _ => an) 0 [] (ovL [(13, alive01.con malive01), (27, PutLittle.con mPutLittle), (28, PutBig.con mPutBig), (24, Num.con mNum), (29, rLittle.con mrLittle), (30, rReverse.con mrReverse), (20, Bytes.con mBytes), (31, Big.con mBig), (32, wLittle.con mwLittle), (26, Kept.con mKept), (33, rBig.con mrBig)]) 1)
noncomputable def m (malive01 : alive01.Ty) (mPutLittle : PutLittle.Ty) (mPutBig : PutBig.Ty) (mNum : Num.Ty) (mrLittle : rLittle.Ty) (mrReverse : rReverse.Ty) (mBytes : Bytes.Ty) (mBig : Big.Ty) (mwLittle : wLittle.Ty) (mKept : Kept.Ty) (mrBig : rBig.Ty) {R : Type} (_N : Nat) (x1 : Int) (n2 : Int) (bN3 : Option Bool) (b4 : List Int) (kr0 : Bool → Option R) : Option R :=
  malive01 R
   (fun v_c2 => cond (!v_c2)
    (kr0 false)
    (cond (decide ((↑b4.length : Int) > 100))
     (kr0 true)
     (mPutLittle R x1 n2
      (mPutBig R x1 n2
       (cond (decide (n2 < 0))
        (mNum R 1
         (fun v_c3 => cond (v_c3 != 1)
          (kr0 false)
          (mNum R 1
           (fun v_c4 => cond (v_c4 != 1)
            (kr0 false)
            (mBytes R bN3 b4
             (fun v_c5 b_c6 => mBig R none (cut (some v_c5) 0 b_c6)
              (fun v_c7 v_1_c8 => mwLittle R none (cut (some v_c5) 0 b_c6)
               (fun v_c9 v_1_c10 => mKept R 0 (some v_c5) false b_c6 bN3 b4
                (fun v_c11 b_c12 b_2_c13 => cond (true && false == b_c12 && b_2_c13.length.beq b_c6.length && true && true)
                 (cond (!v_c11)
                  (kr0 false)
                  (cond (decide ((↑b4.length : Int) > 8))
                   (cond (v_c7 == 0)
                    (cond (v_c9 == 0)
                     (mNum R v_1_c8
                      (fun v_c14 => cond (v_c14 == 3)
                       (mNum R v_1_c10
                        (fun v_c15 => kr0 (v_c15 == 3)))
                       (kr0 false)))
                     (kr0 false))
                    (kr0 false))
                   (cond (v_1_c8.beq 0)
                    (cond (v_1_c10.beq 0)
                     (mrBig R bN3 b4
                      (fun v_c16 => cond (v_c7 == v_c16)
                       (mrReverse R bN3 b4
                        (fun b_c17 => mrBig R none b_c17
                         (fun v_c18 => kr0 (v_c9 == v_c18))))
                       (kr0 false)))
                     (kr0 false))
                    (kr0 false))))
                 (none))))))))))
        (cond (decide (n2 > 8))
         (mNum R 1
          (fun v_c19 => cond (v_c19 != 1)
           (kr0 false)
           (mNum R 1
            (fun v_c20 => cond (v_c20 != 1)
             (kr0 false)
             (mBytes R bN3 b4
              (fun v_c21 b_c22 => mBig R none (cut (some v_c21) 0 b_c22)
               (fun v_c23 v_1_c24 => mwLittle R none (cut (some v_c21) 0 b_c22)
                (fun v_c25 v_1_c26 => mKept R 0 (some v_c21) false b_c22 bN3 b4
                 (fun v_c27 b_c28 b_2_c29 => cond (true && false == b_c28 && b_2_c29.length.beq b_c22.length && true && true)
                  (cond (!v_c27)
                   (kr0 false)
                   (cond (decide ((↑b4.length : Int) > 8))
                    (cond (v_c23 == 0)
                     (cond (v_c25 == 0)
                      (mNum R v_1_c24
                       (fun v_c30 => cond (v_c30 == 3)
                        (mNum R v_1_c26
                         (fun v_c31 => kr0 (v_c31 == 3)))
                        (kr0 false)))
                      (kr0 false))
                     (kr0 false))
                    (cond (v_1_c24.beq 0)
                     (cond (v_1_c26.beq 0)
                      (mrBig R bN3 b4
                       (fun v_c32 => cond (v_c23 == v_c32)
                        (mrReverse R bN3 b4
                         (fun b_c33 => mrBig R none b_c33
                          (fun v_c34 => kr0 (v_c25 == v_c34))))
                        (kr0 false)))
                      (kr0 false))
                     (kr0 false))))
                  (none))))))))))
         (kr0 false)))
       (fun b_c35 => cond (decide (n2 < 0))
        (cond (IntKind.i64.wrap (0 + (↑(olen none b_c35.length 0) : Int)) != 0)
         (kr0 false)
         (mNum R 1
          (fun v_c36 => cond (v_c36 != 1)
           (kr0 false)
           (mNum R 0
            (fun v_c37 => cond (v_c37 != 1)
             (kr0 false)
             (mBytes R bN3 b4
              (fun v_c38 b_c39 => mBig R none (cut (some v_c38) 0 b_c39)
               (fun v_c40 v_1_c41 => mwLittle R none (cut (some v_c38) 0 b_c39)
                (fun v_c42 v_1_c43 => mKept R 0 (some v_c38) false b_c39 bN3 b4
                 (fun v_c44 b_c45 b_2_c46 => cond (true && false == b_c45 && b_2_c46.length.beq b_c39.length && true && true)
                  (cond (!v_c44)
                   (kr0 false)
                   (cond (decide ((↑b4.length : Int) > 8))
                    (cond (v_c40 == 0)
                     (cond (v_c42 == 0)
                      (mNum R v_1_c41
                       (fun v_c47 => cond (v_c47 == 3)
                        (mNum R v_1_c43
                         (fun v_c48 => kr0 (v_c48 == 3)))
                        (kr0 false)))
                      (kr0 false))
                     (kr0 false))
                    (cond (v_1_c41.beq 0)
                     (cond (v_1_c43.beq 0)
                      (mrBig R bN3 b4
                       (fun v_c49 => cond (v_c40 == v_c49)
                        (mrReverse R bN3 b4
                         (fun b_c50 => mrBig R none b_c50
                          (fun v_c51 => kr0 (v_c42 == v_c51))))
                        (kr0 false)))
                      (kr0 false))
                     (kr0 false))))
                  (none)))))))))))
        (cond (decide (n2 > 8))
         (cond (IntKind.i64.wrap (0 + (↑(olen none b_c35.length 0) : Int)) != 0)
          (kr0 false)
          (mNum R 1
           (fun v_c52 => cond (v_c52 != 1)
            (kr0 false)
            (mNum R 0
             (fun v_c53 => cond (v_c53 != 1)
              (kr0 false)
              (mBytes R bN3 b4
               (fun v_c54 b_c55 => mBig R none (cut (some v_c54) 0 b_c55)
                (fun v_c56 v_1_c57 => mwLittle R none (cut (some v_c54) 0 b_c55)
                 (fun v_c58 v_1_c59 => mKept R 0 (some v_c54) false b_c55 bN3 b4
                  (fun v_c60 b_c61 b_2_c62 => cond (true && false == b_c61 && b_2_c62.length.beq b_c55.length && true && true)
                   (cond (!v_c60)
                    (kr0 false)
                    (cond (decide ((↑b4.length : Int) > 8))
                     (cond (v_c56 == 0)
                      (cond (v_c58 == 0)
                       (mNum R v_1_c57
                        (fun v_c63 => cond (v_c63 == 3)
                         (mNum R v_1_c59
                          (fun v_c64 => kr0 (v_c64 == 3)))
                         (kr0 false)))
                       (kr0 false))
                      (kr0 false))
                     (cond (v_1_c57.beq 0)
                      (cond (v_1_c59.beq 0)
                       (mrBig R bN3 b4
                        (fun v_c65 => cond (v_c56 == v_c65)
                         (mrReverse R bN3 b4
                          (fun b_c66 => mrBig R none b_c66
                           (fun v_c67 => kr0 (v_c58 == v_c67))))
                         (kr0 false)))
                       (kr0 false))
                      (kr0 false))))
                   (none)))))))))))
         (kr0 false))))
      (fun b_c68 => mPutBig R x1 n2
       (cond (decide (n2 < 0))
        (cond (IntKind.i64.wrap ((↑(olen none b_c68.length 0) : Int) + 0) != 0)
         (kr0 false)
         (mNum R 0
          (fun v_c69 => cond (v_c69 != 1)
           (kr0 false)
           (mNum R 1
            (fun v_c70 => cond (v_c70 != 1)
             (kr0 false)
             (mBytes R bN3 b4
              (fun v_c71 b_c72 => mBig R none (cut (some v_c71) 0 b_c72)
               (fun v_c73 v_1_c74 => mwLittle R none (cut (some v_c71) 0 b_c72)
                (fun v_c75 v_1_c76 => mKept R 0 (some v_c71) false b_c72 bN3 b4
                 (fun v_c77 b_c78 b_2_c79 => cond (true && false == b_c78 && b_2_c79.length.beq b_c72.length && true && true)
                  (cond (!v_c77)
                   (kr0 false)
                   (cond (decide ((↑b4.length : Int) > 8))
                    (cond (v_c73 == 0)
                     (cond (v_c75 == 0)
                      (mNum R v_1_c74
                       (fun v_c80 => cond (v_c80 == 3)
                        (mNum R v_1_c76
                         (fun v_c81 => kr0 (v_c81 == 3)))
                        (kr0 false)))
                      (kr0 false))
                     (kr0 false))
                    (cond (v_1_c74.beq 0)
                     (cond (v_1_c76.beq 0)
                      (mrBig R bN3 b4
                       (fun v_c82 => cond (v_c73 == v_c82)
                        (mrReverse R bN3 b4
                         (fun b_c83 => mrBig R none b_c83
                          (fun v_c84 => kr0 (v_c75 == v_c84))))
                        (kr0 false)))
                      (kr0 false))
                     (kr0 false))))
                  (none)))))))))))
        (cond (decide (n2 > 8))
         (cond (IntKind.i64.wrap ((↑(olen none b_c68.length 0) : Int) + 0) != 0)
          (kr0 false)
          (mNum R 0
           (fun v_c85 => cond (v_c85 != 1)
            (kr0 false)
            (mNum R 1
             (fun v_c86 => cond (v_c86 != 1)
              (kr0 false)
              (mBytes R bN3 b4
               (fun v_c87 b_c88 => mBig R none (cut (some v_c87) 0 b_c88)
                (fun v_c89 v_1_c90 => mwLittle R none (cut (some v_c87) 0 b_c88)
                 (fun v_c91 v_1_c92 => mKept R 0 (some v_c87) false b_c88 bN3 b4
                  (fun v_c93 b_c94 b_2_c95 => cond (true && false == b_c94 && b_2_c95.length.beq b_c88.length && true && true)
                   (cond (!v_c93)
                    (kr0 false)
                    (cond (decide ((↑b4.length : Int) > 8))
                     (cond (v_c89 == 0)
                      (cond (v_c91 == 0)
                       (mNum R v_1_c90
                        (fun v_c96 => cond (v_c96 == 3)
                         (mNum R v_1_c92
                          (fun v_c97 => kr0 (v_c97 == 3)))
                         (kr0 false)))
                       (kr0 false))
                      (kr0 false))
                     (cond (v_1_c90.beq 0)
                      (cond (v_1_c92.beq 0)
                       (mrBig R bN3 b4
                        (fun v_c98 => cond (v_c89 == v_c98)
                         (mrReverse R bN3 b4
                          (fun b_c99 => mrBig R none b_c99
                           (fun v_c100 => kr0 (v_c91 == v_c100))))
                         (kr0 false)))
                       (kr0 false))
                      (kr0 false))))
                   (none)))))))))))
         (kr0 false)))
       (fun b_c101 => cond (decide (n2 < 0))
        (cond (IntKind.i64.wrap ((↑(olen none b_c68.length 0) : Int) + (↑(olen none b_c101.length 0) : Int)) != 0)
         (kr0 false)
         (mNum R 0
          (fun v_c102 => cond (v_c102 != 1)
           (kr0 false)
           (mNum R 0
            (fun v_c103 => cond (v_c103 != 1)
             (kr0 false)
             (mBytes R bN3 b4
              (fun v_c104 b_c105 => mBig R none (cut (some v_c104) 0 b_c105)
               (fun v_c106 v_1_c107 => mwLittle R none (cut (some v_c104) 0 b_c105)
                (fun v_c108 v_1_c109 => mKept R 0 (some v_c104) false b_c105 bN3 b4
                 (fun v_c110 b_c111 b_2_c112 => cond (true && false == b_c111 && b_2_c112.length.beq b_c105.length && true && true)
                  (cond (!v_c110)
                   (kr0 false)
                   (cond (decide ((↑b4.length : Int) > 8))
                    (cond (v_c106 == 0)
                     (cond (v_c108 == 0)
                      (mNum R v_1_c107
                       (fun v_c113 => cond (v_c113 == 3)
                        (mNum R v_1_c109
                         (fun v_c114 => kr0 (v_c114 == 3)))
                        (kr0 false)))
                      (kr0 false))
                     (kr0 false))
                    (cond (v_1_c107.beq 0)
                     (cond (v_1_c109.beq 0)
                      (mrBig R bN3 b4
                       (fun v_c115 => cond (v_c106 == v_c115)
                        (mrReverse R bN3 b4
                         (fun b_c116 => mrBig R none b_c116
                          (fun v_c117 => kr0 (v_c108 == v_c117))))
                        (kr0 false)))
                      (kr0 false))
                     (kr0 false))))
                  (none)))))))))))
        (cond (decide (n2 > 8))
         (cond (IntKind.i64.wrap ((↑(olen none b_c68.length 0) : Int) + (↑(olen none b_c101.length 0) : Int)) != 0)
          (kr0 false)
          (mNum R 0
           (fun v_c118 => cond (v_c118 != 1)
            (kr0 false)
            (mNum R 0
             (fun v_c119 => cond (v_c119 != 1)
              (kr0 false)
              (mBytes R bN3 b4
               (fun v_c120 b_c121 => mBig R none (cut (some v_c120) 0 b_c121)
                (fun v_c122 v_1_c123 => mwLittle R none (cut (some v_c120) 0 b_c121)
                 (fun v_c124 v_1_c125 => mKept R 0 (some v_c120) false b_c121 bN3 b4
                  (fun v_c126 b_c127 b_2_c128 => cond (true && false == b_c127 && b_2_c128.length.beq b_c121.length && true && true)
                   (cond (!v_c126)
                    (kr0 false)
                    (cond (decide ((↑b4.length : Int) > 8))
                     (cond (v_c122 == 0)
                      (cond (v_c124 == 0)
                       (mNum R v_1_c123
                        (fun v_c129 => cond (v_c129 == 3)
                         (mNum R v_1_c125
                          (fun v_c130 => kr0 (v_c130 == 3)))
                         (kr0 false)))
                       (kr0 false))
                      (kr0 false))
                     (cond (v_1_c123.beq 0)
                      (cond (v_1_c125.beq 0)
                       (mrBig R bN3 b4
                        (fun v_c131 => cond (v_c122 == v_c131)
                         (mrReverse R bN3 b4
                          (fun b_c132 => mrBig R none b_c132
                           (fun v_c133 => kr0 (v_c124 == v_c133))))
                         (kr0 false)))
                       (kr0 false))
                      (kr0 false))))
                   (none)))))))))))
         (mrLittle R x1 n2
          (fun b_c134 => cond (!toStr b_c68 == toStr b_c134)
           (kr0 false)
           (mrReverse R none b_c68
            (fun b_c135 => cond (!toStr b_c101 == toStr b_c135)
             (kr0 false)
             (mBytes R bN3 b4
              (fun v_c136 b_c137 => mBig R none (cut (some v_c136) 0 b_c137)
               (fun v_c138 v_1_c139 => mwLittle R none (cut (some v_c136) 0 b_c137)
                (fun v_c140 v_1_c141 => mKept R 0 (some v_c136) false b_c137 bN3 b4
                 (fun v_c142 b_c143 b_2_c144 => cond (true && false == b_c143 && b_2_c144.length.beq b_c137.length && true && true)
                  (cond (!v_c142)
                   (kr0 false)
                   (cond (decide ((↑b4.length : Int) > 8))
                    (cond (v_c138 == 0)
                     (cond (v_c140 == 0)
                      (mNum R v_1_c139
                       (fun v_c145 => cond (v_c145 == 3)
                        (mNum R v_1_c141
                         (fun v_c146 => kr0 (v_c146 == 3)))
                        (kr0 false)))
                      (kr0 false))
                     (kr0 false))
                    (cond (v_1_c139.beq 0)
                     (cond (v_1_c141.beq 0)
                      (mrBig R bN3 b4
                       (fun v_c147 => cond (v_c138 == v_c147)
                        (mrReverse R bN3 b4
                         (fun b_c148 => mrBig R none b_c148
                          (fun v_c149 => kr0 (v_c140 == v_c149))))
                        (kr0 false)))
                      (kr0 false))
                     (kr0 false))))
                  (none))))))))))))))))
theorem tree (malive01 : alive01.Ty) (mPutLittle : PutLittle.Ty) (mPutBig : PutBig.Ty) (mNum : Num.Ty) (mrLittle : rLittle.Ty) (mrReverse : rReverse.Ty) (mBytes : Bytes.Ty) (mBig : Big.Ty) (mwLittle : wLittle.Ty) (mKept : Kept.Ty) (mrBig : rBig.Ty) {R : Type} (N : Nat) (κ : AV → List Blk → Option R) (x1 : Int) (n2 : Int) (bN3 : Option Bool) (b4 : List Int) : evF (g malive01 mPutLittle mPutBig mNum mrLittle mrReverse mBytes mBig mwLittle mKept mrBig) an N Tryd.f7 [AV.int IntKind.u64 x1, AV.int IntKind.i64 n2, AV.isl IntKind.u8 bN3 b4] [] κ =
  malive01 R
   (fun v_c2 => cond (!v_c2)
    (κ (AV.bool false) [])
    (cond (decide ((↑b4.length : Int) > 100))
     (κ (AV.bool true) [])
     (mPutLittle R x1 n2
      (mPutBig R x1 n2
       (cond (decide (n2 < 0))
        (mNum R 1
         (fun v_c3 => cond (v_c3 != 1)
          (κ (AV.bool false) [])
          (mNum R 1
           (fun v_c4 => cond (v_c4 != 1)
            (κ (AV.bool false) [])
            (mBytes R bN3 b4
             (fun v_c5 b_c6 => mBig R none (cut (some v_c5) 0 b_c6)
              (fun v_c7 v_1_c8 => mwLittle R none (cut (some v_c5) 0 b_c6)
               (fun v_c9 v_1_c10 => mKept R 0 (some v_c5) false b_c6 bN3 b4
                (fun v_c11 b_c12 b_2_c13 => cond (true && false == b_c12 && b_2_c13.length.beq b_c6.length && true && true)
                 (cond (!v_c11)
                  (κ (AV.bool false) [])
                  (cond (decide ((↑b4.length : Int) > 8))
                   (cond (v_c7 == 0)
                    (cond (v_c9 == 0)
                     (mNum R v_1_c8
                      (fun v_c14 => cond (v_c14 == 3)
                       (mNum R v_1_c10
                        (fun v_c15 => κ (AV.bool (v_c15 == 3)) []))
                       (κ (AV.bool false) [])))
                     (κ (AV.bool false) []))
                    (κ (AV.bool false) []))
                   (cond (v_1_c8.beq 0)
                    (cond (v_1_c10.beq 0)
                     (mrBig R bN3 b4
                      (fun v_c16 => cond (v_c7 == v_c16)
                       (mrReverse R bN3 b4
                        (fun b_c17 => mrBig R none b_c17
                         (fun v_c18 => κ (AV.bool (v_c9 == v_c18)) [])))
                       (κ (AV.bool false) [])))
                     (κ (AV.bool false) []))
                    (κ (AV.bool false) []))))
                 (none))))))))))
        (cond (decide (n2 > 8))
         (mNum R 1
          (fun v_c19 => cond (v_c19 != 1)
           (κ (AV.bool false) [])
           (mNum R 1
            (fun v_c20 => cond (v_c20 != 1)
             (κ (AV.bool false) [])
             (mBytes R bN3 b4
              (fun v_c21 b_c22 => mBig R none (cut (some v_c21) 0 b_c22)
               (fun v_c23 v_1_c24 => mwLittle R none (cut (some v_c21) 0 b_c22)
                (fun v_c25 v_1_c26 => mKept R 0 (some v_c21) false b_c22 bN3 b4
                 (fun v_c27 b_c28 b_2_c29 => cond (true && false == b_c28 && b_2_c29.length.beq b_c22.length && true && true)
                  (cond (!v_c27)
                   (κ (AV.bool false) [])
                   (cond (decide ((↑b4.length : Int) > 8))
                    (cond (v_c23 == 0)
                     (cond (v_c25 == 0)
                      (mNum R v_1_c24
                       (fun v_c30 => cond (v_c30 == 3)
                        (mNum R v_1_c26
                         (fun v_c31 => κ (AV.bool (v_c31 == 3)) []))
                        (κ (AV.bool false) [])))
                      (κ (AV.bool false) []))
                     (κ (AV.bool false) []))
                    (cond (v_1_c24.beq 0)
                     (cond (v_1_c26.beq 0)
                      (mrBig R bN3 b4
                       (fun v_c32 => cond (v_c23 == v_c32)
                        (mrReverse R bN3 b4
                         (fun b_c33 => mrBig R none b_c33
                          (fun v_c34 => κ (AV.bool (v_c25 == v_c34)) [])))
                        (κ (AV.bool false) [])))
                      (κ (AV.bool false) []))
                     (κ (AV.bool false) []))))
                  (none))))))))))
         (κ (AV.bool false) [])))
       (fun b_c35 => cond (decide (n2 < 0))
        (cond (IntKind.i64.wrap (0 + (↑(olen none b_c35.length 0) : Int)) != 0)
         (κ (AV.bool false) [])
         (mNum R 1
          (fun v_c36 => cond (v_c36 != 1)
           (κ (AV.bool false) [])
           (mNum R 0
            (fun v_c37 => cond (v_c37 != 1)
             (κ (AV.bool false) [])
             (mBytes R bN3 b4
              (fun v_c38 b_c39 => mBig R none (cut (some v_c38) 0 b_c39)
               (fun v_c40 v_1_c41 => mwLittle R none (cut (some v_c38) 0 b_c39)
                (fun v_c42 v_1_c43 => mKept R 0 (some v_c38) false b_c39 bN3 b4
                 (fun v_c44 b_c45 b_2_c46 => cond (true && false == b_c45 && b_2_c46.length.beq b_c39.length && true && true)
                  (cond (!v_c44)
                   (κ (AV.bool false) [])
                   (cond (decide ((↑b4.length : Int) > 8))
                    (cond (v_c40 == 0)
                     (cond (v_c42 == 0)
                      (mNum R v_1_c41
                       (fun v_c47 => cond (v_c47 == 3)
                        (mNum R v_1_c43
                         (fun v_c48 => κ (AV.bool (v_c48 == 3)) []))
                        (κ (AV.bool false) [])))
                      (κ (AV.bool false) []))
                     (κ (AV.bool false) []))
                    (cond (v_1_c41.beq 0)
                     (cond (v_1_c43.beq 0)
                      (mrBig R bN3 b4
                       (fun v_c49 => cond (v_c40 == v_c49)
                        (mrReverse R bN3 b4
                         (fun b_c50 => mrBig R none b_c50
                          (fun v_c51 => κ (AV.bool (v_c42 == v_c51)) [])))
                        (κ (AV.bool false) [])))
                      (κ (AV.bool false) []))
                     (κ (AV.bool false) []))))
                  (none)))))))))))
        (cond (decide (n2 > 8))
         (cond (IntKind.i64.wrap (0 + (↑(olen none b_c35.length 0) : Int)) != 0)
          (κ (AV.bool false) [])
          (mNum R 1
           (fun v_c52 => cond (v_c52 != 1)
            (κ (AV.bool false) [])
            (mNum R 0
             (fun v_c53 => cond (v_c53 != 1)
              (κ (AV.bool false) [])
              (mBytes R bN3 b4
               (fun v_c54 b_c55 => mBig R none (cut (some v_c54) 0 b_c55)
                (fun v_c56 v_1_c57 => mwLittle R none (cut (some v_c54) 0 b_c55)
                 (fun v_c58 v_1_c59 => mKept R 0 (some v_c54) false b_c55 bN3 b4
                  (fun v_c60 b_c61 b_2_c62 => cond (true && false == b_c61 && b_2_c62.length.beq b_c55.length && true && true)
                   (cond (!v_c60)
                    (κ (AV.bool false) [])
                    (cond (decide ((↑b4.length : Int) > 8))
                     (cond (v_c56 == 0)
                      (cond (v_c58 == 0)
                       (mNum R v_1_c57
                        (fun v_c63 => cond (v_c63 == 3)
                         (mNum R v_1_c59
                          (fun v_c64 => κ (AV.bool (v_c64 == 3)) []))
                         (κ (AV.bool false) [])))
                       (κ (AV.bool false) []))
                      (κ (AV.bool false) []))
                     (cond (v_1_c57.beq 0)
                      (cond (v_1_c59.beq 0)
                       (mrBig R bN3 b4
                        (fun v_c65 => cond (v_c56 == v_c65)
                         (mrReverse R bN3 b4
                          (fun b_c66 => mrBig R none b_c66
                           (fun v_c67 => κ (AV.bool (v_c58 == v_c67)) [])))
                         (κ (AV.bool false) [])))
                       (κ (AV.bool false) []))
                      (κ (AV.bool false) []))))
                   (none)))))))))))
         (κ (AV.bool false) []))))
      (fun b_c68 => mPutBig R x1 n2
       (cond (decide (n2 < 0))
        (cond (IntKind.i64.wrap ((↑(olen none b_c68.length 0) : Int) + 0) != 0)
         (κ (AV.bool false) [])
         (mNum R 0
          (fun v_c69 => cond (v_c69 != 1)
           (κ (AV.bool false) [])
           (mNum R 1
            (fun v_c70 => cond (v_c70 != 1)
             (κ (AV.bool false) [])
             (mBytes R bN3 b4
              (fun v_c71 b_c72 => mBig R none (cut (some v_c71) 0 b_c72)
               (fun v_c73 v_1_c74 => mwLittle R none (cut (some v_c71) 0 b_c72)
                (fun v_c75 v_1_c76 => mKept R 0 (some v_c71) false b_c72 bN3 b4
                 (fun v_c77 b_c78 b_2_c79 => cond (true && false == b_c78 && b_2_c79.length.beq b_c72.length && true && true)
                  (cond (!v_c77)
                   (κ (AV.bool false) [])
                   (cond (decide ((↑b4.length : Int) > 8))
                    (cond (v_c73 == 0)
                     (cond (v_c75 == 0)
                      (mNum R v_1_c74
                       (fun v_c80 => cond (v_c80 == 3)
                        (mNum R v_1_c76
                         (fun v_c81 => κ (AV.bool (v_c81 == 3)) []))
                        (κ (AV.bool false) [])))
                      (κ (AV.bool false) []))
                     (κ (AV.bool false) []))
                    (cond (v_1_c74.beq 0)
                     (cond (v_1_c76.beq 0)
                      (mrBig R bN3 b4
                       (fun v_c82 => cond (v_c73 == v_c82)
                        (mrReverse R bN3 b4
                         (fun b_c83 => mrBig R none b_c83
                          (fun v_c84 => κ (AV.bool (v_c75 == v_c84)) [])))
                        (κ (AV.bool false) [])))
                      (κ (AV.bool false) []))
                     (κ (AV.bool false) []))))
                  (none)))))))))))
        (cond (decide (n2 > 8))
         (cond (IntKind.i64.wrap ((↑(olen none b_c68.length 0) : Int) + 0) != 0)
          (κ (AV.bool false) [])
          (mNum R 0
           (fun v_c85 => cond (v_c85 != 1)
            (κ (AV.bool false) [])
            (mNum R 1
             (fun v_c86 => cond (v_c86 != 1)
              (κ (AV.bool false) [])
              (mBytes R bN3 b4
               (fun v_c87 b_c88 => mBig R none (cut (some v_c87) 0 b_c88)
                (fun v_c89 v_1_c90 => mwLittle R none (cut (some v_c87) 0 b_c88)
                 (fun v_c91 v_1_c92 => mKept R 0 (some v_c87) false b_c88 bN3 b4
                  (fun v_c93 b_c94 b_2_c95 => cond (true && false == b_c94 && b_2_c95.length.beq b_c88.length && true && true)
                   (cond (!v_c93)
                    (κ (AV.bool false) [])
                    (cond (decide ((↑b4.length : Int) > 8))
                     (cond (v_c89 == 0)
                      (cond (v_c91 == 0)
                       (mNum R v_1_c90
                        (fun v_c96 => cond (v_c96 == 3)
                         (mNum R v_1_c92
                          (fun v_c97 => κ (AV.bool (v_c97 == 3)) []))
                         (κ (AV.bool false) [])))
                       (κ (AV.bool false) []))
                      (κ (AV.bool false) []))
                     (cond (v_1_c90.beq 0)
                      (cond (v_1_c92.beq 0)
                       (mrBig R bN3 b4
                        (fun v_c98 => cond (v_c89 == v_c98)
                         (mrReverse R bN3 b4
                          (fun b_c99 => mrBig R none b_c99
                           (fun v_c100 => κ (AV.bool (v_c91 == v_c100)) [])))
                         (κ (AV.bool false) [])))
                       (κ (AV.bool false) []))
                      (κ (AV.bool false) []))))
                   (none)))))))))))
         (κ (AV.bool false) [])))
       (fun b_c101 => cond (decide (n2 < 0))
        (cond (IntKind.i64.wrap ((↑(olen none b_c68.length 0) : Int) + (↑(olen none b_c101.length 0) : Int)) != 0)
         (κ (AV.bool false) [])
         (mNum R 0
          (fun v_c102 => cond (v_c102 != 1)
           (κ (AV.bool false) [])
           (mNum R 0
            (fun v_c103 => cond (v_c103 != 1)
             (κ (AV.bool false) [])
             (mBytes R bN3 b4
              (fun v_c104 b_c105 => mBig R none (cut (some v_c104) 0 b_c105)
               (fun v_c106 v_1_c107 => mwLittle R none (cut (some v_c104) 0 b_c105)
                (fun v_c108 v_1_c109 => mKept R 0 (some v_c104) false b_c105 bN3 b4
                 (fun v_c110 b_c111 b_2_c112 => cond (true && false == b_c111 && b_2_c112.length.beq b_c105.length && true && true)
                  (cond (!v_c110)
                   (κ (AV.bool false) [])
                   (cond (decide ((↑b4.length : Int) > 8))
                    (cond (v_c106 == 0)
                     (cond (v_c108 == 0)
                      (mNum R v_1_c107
                       (fun v_c113 => cond (v_c113 == 3)
                        (mNum R v_1_c109
                         (fun v_c114 => κ (AV.bool (v_c114 == 3)) []))
                        (κ (AV.bool false) [])))
                      (κ (AV.bool false) []))
                     (κ (AV.bool false) []))
                    (cond (v_1_c107.beq 0)
                     (cond (v_1_c109.beq 0)
                      (mrBig R bN3 b4
                       (fun v_c115 => cond (v_c106 == v_c115)
                        (mrReverse R bN3 b4
                         (fun b_c116 => mrBig R none b_c116
                          (fun v_c117 => κ (AV.bool (v_c108 == v_c117)) [])))
                        (κ (AV.bool false) [])))
                      (κ (AV.bool false) []))
                     (κ (AV.bool false) []))))
                  (none)))))))))))
        (cond (decide (n2 > 8))
         (cond (IntKind.i64.wrap ((↑(olen none b_c68.length 0) : Int) + (↑(olen none b_c101.length 0) : Int)) != 0)
          (κ (AV.bool false) [])
          (mNum R 0
           (fun v_c118 => cond (v_c118 != 1)
            (κ (AV.bool false) [])
            (mNum R 0
             (fun v_c119 => cond (v_c119 != 1)
              (κ (AV.bool false) [])
              (mBytes R bN3 b4
               (fun v_c120 b_c121 => mBig R none (cut (some v_c120) 0 b_c121)
                (fun v_c122 v_1_c123 => mwLittle R none (cut (some v_c120) 0 b_c121)
                 (fun v_c124 v_1_c125 => mKept R 0 (some v_c120) false b_c121 bN3 b4
                  (fun v_c126 b_c127 b_2_c128 => cond (true && false == b_c127 && b_2_c128.length.beq b_c121.length && true && true)
                   (cond (!v_c126)
                    (κ (AV.bool false) [])
                    (cond (decide ((↑b4.length : Int) > 8))
                     (cond (v_c122 == 0)
                      (cond (v_c124 == 0)
                       (mNum R v_1_c123
                        (fun v_c129 => cond (v_c129 == 3)
                         (mNum R v_1_c125
                          (fun v_c130 => κ (AV.bool (v_c130 == 3)) []))
                         (κ (AV.bool false) [])))
                       (κ (AV.bool false) []))
                      (κ (AV.bool false) []))
                     (cond (v_1_c123.beq 0)
                      (cond (v_1_c125.beq 0)
                       (mrBig R bN3 b4
                        (fun v_c131 => cond (v_c122 == v_c131)
                         (mrReverse R bN3 b4
                          (fun b_c132 => mrBig R none b_c132
                           (fun v_c133 => κ (AV.bool (v_c124 == v_c133)) [])))
                         (κ (AV.bool false) [])))
                       (κ (AV.bool false) []))
                      (κ (AV.bool false) []))))
                   (none)))))))))))
         (mrLittle R x1 n2
          (fun b_c134 => cond (!toStr b_c68 == toStr b_c134)
           (κ (AV.bool false) [])
           (mrReverse R none b_c68
            (fun b_c135 => cond (!toStr b_c101 == toStr b_c135)
             (κ (AV.bool false) [])
             (mBytes R bN3 b4
              (fun v_c136 b_c137 => mBig R none (cut (some v_c136) 0 b_c137)
               (fun v_c138 v_1_c139 => mwLittle R none (cut (some v_c136) 0 b_c137)
                (fun v_c140 v_1_c141 => mKept R 0 (some v_c136) false b_c137 bN3 b4
                 (fun v_c142 b_c143 b_2_c144 => cond (true && false == b_c143 && b_2_c144.length.beq b_c137.length && true && true)
                  (cond (!v_c142)
                   (κ (AV.bool false) [])
                   (cond (decide ((↑b4.length : Int) > 8))
                    (cond (v_c138 == 0)
                     (cond (v_c140 == 0)
                      (mNum R v_1_c139
                       (fun v_c145 => cond (v_c145 == 3)
                        (mNum R v_1_c141
                         (fun v_c146 => κ (AV.bool (v_c146 == 3)) []))
                        (κ (AV.bool false) [])))
                      (κ (AV.bool false) []))
                     (κ (AV.bool false) []))
                    (cond (v_1_c139.beq 0)
                     (cond (v_1_c141.beq 0)
                      (mrBig R bN3 b4
                       (fun v_c147 => cond (v_c138 == v_c147)
                        (mrReverse R bN3 b4
                         (fun b_c148 => mrBig R none b_c148
                          (fun v_c149 => κ (AV.bool (v_c140 == v_c149)) [])))
                        (κ (AV.bool false) [])))
                      (κ (AV.bool false) []))
                     (κ (AV.bool false) []))))
                  (none)))))))))))))))) := by kernel_rfl
theorem eq (malive01 : alive01.Ty) (mPutLittle : PutLittle.Ty) (mPutBig : PutBig.Ty) (mNum : Num.Ty) (mrLittle : rLittle.Ty) (mrReverse : rReverse.Ty) (mBytes : Bytes.Ty) (mBig : Big.Ty) (mwLittle : wLittle.Ty) (mKept : Kept.Ty) (mrBig : rBig.Ty) {R : Type} (N : Nat) (κ : AV → List Blk → Option R) (x1 : Int) (n2 : Int) (bN3 : Option Bool) (b4 : List Int) : evF (g malive01 mPutLittle mPutBig mNum mrLittle mrReverse mBytes mBig mwLittle mKept mrBig) an N Tryd.f7 [AV.int IntKind.u64 x1, AV.int IntKind.i64 n2, AV.isl IntKind.u8 bN3 b4] [] κ =
  m malive01 mPutLittle mPutBig mNum mrLittle mrReverse mBytes mBig mwLittle mKept mrBig N x1 n2 bN3 b4 (fun v => κ (AV.bool v) []) := by
  rw [tree]
  kernel_rfl
abbrev Ty : Type 1 := ∀ R : Type, Int → Int → (Option Bool) → (List Int) → (Bool → Option R) → Option R
def con (f : Ty) : Con := fun R args bs κ => match args, bs with
  | [AV.int IntKind.u64 x1, AV.int IntKind.i64 n2, AV.isl IntKind.u8 bN3 b4], [] => f R x1 n2 bN3 b4 (fun v => κ (AV.bool v) [])
  | _, _ => none
theorem con_eq (f : Ty) (R : Type) (κ : AV → List Blk → Option R) (x1 : Int) (n2 : Int) (bN3 : Option Bool) (b4 : List Int) : con f R [AV.int IntKind.u64 x1, AV.int IntKind.i64 n2, AV.isl IntKind.u8 bN3 b4] [] κ = f R x1 n2 bN3 b4 (fun v => κ (AV.bool v) []) := rfl
noncomputable def M (N : Nat) : Ty := fun R x1 n2 bN3 b4 kr0 => m (alive01.M N) (PutLittle.M N) (PutBig.M N) (Num.M N) (rLittle.M N) (rReverse.M N) (Bytes.M N) (Big.M N) (wLittle.M N) (Kept.M N) (rBig.M N) (R := R) N x1 n2 bN3 b4 kr0
def gts : List (Nat × AV) := [(0, .err 4), (1, .err 1), (2, .err 2), (3, .err 3), (4, .err 5), (5, .err 6), (6, .err 7), (7, .err 8), (8, .err 9), (9, .err 10), (10, .err 11), (11, .err 12), (12, .err 13), (13, .err 14), (14, .err 15), (15, .err 16), (16, .err 17), (17, .err 18), (18, .err 19)]
theorem gok (N : Nat) : GOk (g (alive01.M N) (PutLittle.M N) (PutBig.M N) (Num.M N) (rLittle.M N) (rReverse.M N) (Bytes.M N) (Big.M N) (wLittle.M N) (Kept.M N) (rBig.M N)) := giW_ok (giD_ok hm (by intro p hp; cases hp) (gtL_ok (by decide)) (ovL_ok (by
    intro p hp
    simp only [List.mem_cons, List.not_mem_nil, or_false] at hp
    rcases hp with rfl | rfl | rfl | rfl | rfl | rfl | rfl | rfl | rfl | rfl | rfl
    · exact ⟨(alive01.ok N).gt (gtL_sub (by repeat (first | exact subG_nil _ | refine subG_cons (by kernel_rfl) ?_))) (gtL_ok (by decide)), _, Tryd.func13, by kernel_rfl, by kernel_rfl⟩
    · exact ⟨(PutLittle.ok N).gt (gtL_sub (by repeat (first | exact subG_nil _ | refine subG_cons (by kernel_rfl) ?_))) (gtL_ok (by decide)), _, Tryd.func27, by kernel_rfl, by kernel_rfl⟩
    · exact ⟨(PutBig.ok N).gt (gtL_sub (by repeat (first | exact subG_nil _ | refine subG_cons (by kernel_rfl) ?_))) (gtL_ok (by decide)), _, Tryd.func28, by kernel_rfl, by kernel_rfl⟩
    · exact ⟨(Num.ok N).gt (gtL_sub (by repeat (first | exact subG_nil _ | refine subG_cons (by kernel_rfl) ?_))) (gtL_ok (by decide)), _, Tryd.func24, by kernel_rfl, by kernel_rfl⟩
    · exact ⟨(rLittle.ok N).gt (gtL_sub (by repeat (first | exact subG_nil _ | refine subG_cons (by kernel_rfl) ?_))) (gtL_ok (by decide)), _, Tryd.func29, by kernel_rfl, by kernel_rfl⟩
    · exact ⟨(rReverse.ok N).gt (gtL_sub (by repeat (first | exact subG_nil _ | refine subG_cons (by kernel_rfl) ?_))) (gtL_ok (by decide)), _, Tryd.func30, by kernel_rfl, by kernel_rfl⟩
    · exact ⟨(Bytes.ok N).gt (gtL_sub (by repeat (first | exact subG_nil _ | refine subG_cons (by kernel_rfl) ?_))) (gtL_ok (by decide)), _, Tryd.func20, by kernel_rfl, by kernel_rfl⟩
    · exact ⟨(Big.ok N).gt (gtL_sub (by repeat (first | exact subG_nil _ | refine subG_cons (by kernel_rfl) ?_))) (gtL_ok (by decide)), _, Tryd.func31, by kernel_rfl, by kernel_rfl⟩
    · exact ⟨(wLittle.ok N).gt (gtL_sub (by repeat (first | exact subG_nil _ | refine subG_cons (by kernel_rfl) ?_))) (gtL_ok (by decide)), _, Tryd.func32, by kernel_rfl, by kernel_rfl⟩
    · exact ⟨(Kept.ok N).gt (gtL_sub (by repeat (first | exact subG_nil _ | refine subG_cons (by kernel_rfl) ?_))) (gtL_ok (by decide)), _, Tryd.func26, by kernel_rfl, by kernel_rfl⟩
    · exact ⟨(rBig.ok N).gt (gtL_sub (by repeat (first | exact subG_nil _ | refine subG_cons (by kernel_rfl) ?_))) (gtL_ok (by decide)), _, Tryd.func33, by kernel_rfl, by kernel_rfl⟩
)) 1)
theorem ok (N : Nat) : SoundC Tryd.prog (gtL gts) 7 (con (M N)) := by
  refine SoundC.mono (evF_ok (gok N) hm an N Tryd.func7) fun R args bs κ r h => ?_
  unfold con at h
  split at h
  · exact (eq (alive01.M N) (PutLittle.M N) (PutBig.M N) (Num.M N) (rLittle.M N) (rReverse.M N) (Bytes.M N) (Big.M N) (wLittle.M N) (Kept.M N) (rBig.M N) N κ _ _ _ _).trans h
  · cases h
end WordsBytes

end Go.Proofs.YtllnbcibleeogaaDoor.fn
