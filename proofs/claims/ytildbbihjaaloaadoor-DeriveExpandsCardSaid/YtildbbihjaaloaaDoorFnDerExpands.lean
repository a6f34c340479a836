/- What a law of derivations computes, with the proof; printed by a program. -/
import Derived.Test.YtildbbihjaaloaaDoorProg
import Derived.Test.YtildbbihjaaloaaDoorEv4
import Derived.Test.YtildbbihjaaloaaDoorFnDerL
namespace Go.Proofs.YtildbbihjaaloaaDoor.fn
open Go Go.Proofs Go.Ev

/-! ### Tryd.f13: DeriveExpands -/
namespace DeriveExpands
def an : Anns := ⟨fun i => findA i [], fun i => findA i [], false, fun _ => none, []⟩
noncomputable def g (malive05 : alive05.Ty) (mBytes : Bytes.Ty) (mdExpand : dExpand.Ty) (mdExtract : dExtract.Ty) (mm4Sum : m4Sum.Ty) (mKept : Kept.Ty) (mNum : Num.Ty) (mrdExpand : rdExpand.Ty) : Gi := giW [19] (giD Tryd.prog (gtL [(0, .err 1), (1, .err 2), (2, .err 3), (3, .err 4), (4, .err 5), (5, .err 6), (6, .err 7), (7, .err 8), (8, .err 9), (9, .err 10), (10, .err 11), (11, .err 12), (12, .err 13), (13, .err 14), (14, .err 15), (15, .err 16), (16, .err 17), (17, .err 18), (18, .err 19), (19, .ints .u32 64 [1116352408, 1899447441, 3049323471, 3921009573, 961987163, 1508970993, 2453635748, 2870763221, 3624381080, 310598401, 607225278, 1426881987, 1925078388, 2162078206, 2614888103, 3248222580, 3835390401, 4022224774, 264347078, 604807628, 770255983, 1249150122, 1555081692, 1996064986, 2554220882, 2821834349, 2952996808, 3210313671, 3336571891, 3584528711, 113926993, 338241895, 666307205, 773529912, 1294757372, 1396182291, 1695183700, 1986661051, 2177026350, 2456956037, 2730485921, 2820302411, 3259730800, 3345764771, 3516065817, 3600352804, 4094571909, 275423344, 430227734, 506948616, 659060556, 883997877, 958139571, 1322822218, 1537002063, 1747873779, 1955562222, 2024104815, 2227730452, 2361852424, 2428436474, 2756734187, 3204031479, 3329325298])]) (fun _ => an) 0 [] (ovL [(34, alive05.con malive05), (16, Bytes.con mBytes), (36, dExpand.con mdExpand), (37, dExtract.con mdExtract), (32, m4Sum.con mm4Sum), (19, Kept.con mKept), (28, Num.con mNum), (38, rdExpand.con mrdExpand)]) 1)
noncomputable def m (malive05 : alive05.Ty) (mBytes : Bytes.Ty) (mdExpand : dExpand.Ty) (mdExtract : dExtract.Ty) (mm4Sum : m4Sum.Ty) (mKept : Kept.Ty) (mNum : Num.Ty) (mrdExpand : rdExpand.Ty) {R : Type} (_N : Nat) (keyN1 : Option Bool) (key2 : List Int) (infoN3 : Option Bool) (info4 : List Int) (n5 : Int) (kr0 : Bool → Option R) : Option R :=
  malive05 R
   (fun v_c2 => cond (!v_c2)
    (kr0 false)
    (cond (decide ((↑key2.length : Int) > 200))
     (kr0 true)
     (cond (decide ((↑info4.length : Int) > 300))
      (kr0 true)
      (cond (decide (n5 > 500))
       (cond (decide (n5 < 8160))
        (mBytes R infoN3 info4
         (fun v_c3 b_c4 => mdExpand R keyN1 key2 none (cut (some v_c3) 0 b_c4) (n5.tmod 500)
          (fun v_c5 => mdExtract R keyN1 key2 infoN3 info4
           (fun v_c6 => mm4Sum R keyN1 key2 infoN3 info4
            (fun v_c7 => cond (!v_c6 == v_c7)
             (kr0 false)
             (mKept R 0 (some v_c3) false b_c4 infoN3 info4
              (fun v_c8 b_c9 b_2_c10 => cond (true && false == b_c9 && b_2_c10.length.beq b_c4.length && true && true)
               (cond (!v_c8)
                (kr0 false)
                (cond (decide (n5.tmod 500 < 0))
                 (mNum R v_c5
                  (fun v_c11 => kr0 (v_c11 == 1)))
                 (cond (decide (n5.tmod 500 > 8160))
                  (mNum R v_c5
                   (fun v_c12 => kr0 (v_c12 == 1)))
                  (cond (v_c5.beq 0)
                   (mrdExpand R keyN1 key2 infoN3 info4 (n5.tmod 500)
                    (fun v_c13 => kr0 ([] == toStr v_c13)))
                   (kr0 false)))))
               (none))))))
          (fun vg1_c14 _b_c15 b_2_c16 => mdExtract R keyN1 key2 infoN3 info4
           (fun v_c17 => mm4Sum R keyN1 key2 infoN3 info4
            (fun v_c18 => cond (!v_c17 == v_c18)
             (kr0 false)
             (mKept R 0 (some v_c3) false b_c4 infoN3 info4
              (fun v_c19 b_c20 b_2_c21 => cond (true && false == b_c20 && b_2_c21.length.beq b_c4.length && true && true)
               (cond (!v_c19)
                (kr0 false)
                (cond (decide (n5.tmod 500 < 0))
                 (cond ((↑(olen (some vg1_c14) b_2_c16.length 0) : Int) == 0)
                  (mNum R 0
                   (fun v_c22 => kr0 (v_c22 == 1)))
                  (kr0 false))
                 (cond (decide (n5.tmod 500 > 8160))
                  (cond ((↑(olen (some vg1_c14) b_2_c16.length 0) : Int) == 0)
                   (mNum R 0
                    (fun v_c23 => kr0 (v_c23 == 1)))
                   (kr0 false))
                  (mrdExpand R keyN1 key2 infoN3 info4 (n5.tmod 500)
                   (fun v_c24 => kr0 (toStr (cut (some vg1_c14) 0 b_2_c16) == toStr v_c24))))))
               (none))))))))
        (mBytes R infoN3 info4
         (fun v_c25 b_c26 => mdExpand R keyN1 key2 none (cut (some v_c25) 0 b_c26) n5
          (fun v_c27 => mdExtract R keyN1 key2 infoN3 info4
           (fun v_c28 => mm4Sum R keyN1 key2 infoN3 info4
            (fun v_c29 => cond (!v_c28 == v_c29)
             (kr0 false)
             (mKept R 0 (some v_c25) false b_c26 infoN3 info4
              (fun v_c30 b_c31 b_2_c32 => cond (true && false == b_c31 && b_2_c32.length.beq b_c26.length && true && true)
               (cond (!v_c30)
                (kr0 false)
                (cond (decide (n5 < 0))
                 (mNum R v_c27
                  (fun v_c33 => kr0 (v_c33 == 1)))
                 (cond (decide (n5 > 8160))
                  (mNum R v_c27
                   (fun v_c34 => kr0 (v_c34 == 1)))
                  (cond (v_c27.beq 0)
                   (mrdExpand R keyN1 key2 infoN3 info4 n5
                    (fun v_c35 => kr0 ([] == toStr v_c35)))
                   (kr0 false)))))
               (none))))))
          (fun vg1_c36 _b_c37 b_2_c38 => mdExtract R keyN1 key2 infoN3 info4
           (fun v_c39 => mm4Sum R keyN1 key2 infoN3 info4
            (fun v_c40 => cond (!v_c39 == v_c40)
             (kr0 false)
             (mKept R 0 (some v_c25) false b_c26 infoN3 info4
              (fun v_c41 b_c42 b_2_c43 => cond (true && false == b_c42 && b_2_c43.length.beq b_c26.length && true && true)
               (cond (!v_c41)
                (kr0 false)
                (cond (decide (n5 < 0))
                 (cond ((↑(olen (some vg1_c36) b_2_c38.length 0) : Int) == 0)
                  (mNum R 0
                   (fun v_c44 => kr0 (v_c44 == 1)))
                  (kr0 false))
                 (cond (decide (n5 > 8160))
                  (cond ((↑(olen (some vg1_c36) b_2_c38.length 0) : Int) == 0)
                   (mNum R 0
                    (fun v_c45 => kr0 (v_c45 == 1)))
                   (kr0 false))
                  (mrdExpand R keyN1 key2 infoN3 info4 n5
                   (fun v_c46 => kr0 (toStr (cut (some vg1_c36) 0 b_2_c38) == toStr v_c46))))))
               (none)))))))))
       (mBytes R infoN3 info4
        (fun v_c47 b_c48 => mdExpand R keyN1 key2 none (cut (some v_c47) 0 b_c48) n5
         (fun v_c49 => mdExtract R keyN1 key2 infoN3 info4
          (fun v_c50 => mm4Sum R keyN1 key2 infoN3 info4
           (fun v_c51 => cond (!v_c50 == v_c51)
            (kr0 false)
            (mKept R 0 (some v_c47) false b_c48 infoN3 info4
             (fun v_c52 b_c53 b_2_c54 => cond (true && false == b_c53 && b_2_c54.length.beq b_c48.length && true && true)
              (cond (!v_c52)
               (kr0 false)
               (cond (decide (n5 < 0))
                (mNum R v_c49
                 (fun v_c55 => kr0 (v_c55 == 1)))
                (cond (decide (n5 > 8160))
                 (mNum R v_c49
                  (fun v_c56 => kr0 (v_c56 == 1)))
                 (cond (v_c49.beq 0)
                  (mrdExpand R keyN1 key2 infoN3 info4 n5
                   (fun v_c57 => kr0 ([] == toStr v_c57)))
                  (kr0 false)))))
              (none))))))
         (fun vg1_c58 _b_c59 b_2_c60 => mdExtract R keyN1 key2 infoN3 info4
          (fun v_c61 => mm4Sum R keyN1 key2 infoN3 info4
           (fun v_c62 => cond (!v_c61 == v_c62)
            (kr0 false)
            (mKept R 0 (some v_c47) false b_c48 infoN3 info4
             (fun v_c63 b_c64 b_2_c65 => cond (true && false == b_c64 && b_2_c65.length.beq b_c48.length && true && true)
              (cond (!v_c63)
               (kr0 false)
               (cond (decide (n5 < 0))
                (cond ((↑(olen (some vg1_c58) b_2_c60.length 0) : Int) == 0)
                 (mNum R 0
                  (fun v_c66 => kr0 (v_c66 == 1)))
                 (kr0 false))
                (cond (decide (n5 > 8160))
                 (cond ((↑(olen (some vg1_c58) b_2_c60.length 0) : Int) == 0)
                  (mNum R 0
                   (fun v_c67 => kr0 (v_c67 == 1)))
                  (kr0 false))
                 (mrdExpand R keyN1 key2 infoN3 info4 n5
                  (fun v_c68 => kr0 (toStr (cut (some vg1_c58) 0 b_2_c60) == toStr v_c68))))))
              (none))))))))))))
theorem tree (malive05 : alive05.Ty) (mBytes : Bytes.Ty) (mdExpand : dExpand.Ty) (mdExtract : dExtract.Ty) (mm4Sum : m4Sum.Ty) (mKept : Kept.Ty) (mNum : Num.Ty) (mrdExpand : rdExpand.Ty) {R : Type} (N : Nat) (κ : AV → List Blk → Option R) (keyN1 : Option Bool) (key2 : List Int) (infoN3 : Option Bool) (info4 : List Int) (n5 : Int) : evF (g malive05 mBytes mdExpand mdExtract mm4Sum mKept mNum mrdExpand) an N Tryd.f13 [AV.isl IntKind.u8 keyN1 key2, AV.isl IntKind.u8 infoN3 info4, AV.int IntKind.i64 n5] [] κ =
  malive05 R
   (fun v_c2 => cond (!v_c2)
    (κ (AV.bool false) [])
    (cond (decide ((↑key2.length : Int) > 200))
     (κ (AV.bool true) [])
     (cond (decide ((↑info4.length : Int) > 300))
      (κ (AV.bool true) [])
      (cond (decide (n5 > 500))
       (cond (decide (n5 < 8160))
        (mBytes R infoN3 info4
         (fun v_c3 b_c4 => mdExpand R keyN1 key2 none (cut (some v_c3) 0 b_c4) (n5.tmod 500)
          (fun v_c5 => mdExtract R keyN1 key2 infoN3 info4
           (fun v_c6 => mm4Sum R keyN1 key2 infoN3 info4
            (fun v_c7 => cond (!v_c6 == v_c7)
             (κ (AV.bool false) [])
             (mKept R 0 (some v_c3) false b_c4 infoN3 info4
              (fun v_c8 b_c9 b_2_c10 => cond (true && false == b_c9 && b_2_c10.length.beq b_c4.length && true && true)
               (cond (!v_c8)
                (κ (AV.bool false) [])
                (cond (decide (n5.tmod 500 < 0))
                 (mNum R v_c5
                  (fun v_c11 => κ (AV.bool (v_c11 == 1)) []))
                 (cond (decide (n5.tmod 500 > 8160))
                  (mNum R v_c5
                   (fun v_c12 => κ (AV.bool (v_c12 == 1)) []))
                  (cond (v_c5.beq 0)
                   (mrdExpand R keyN1 key2 infoN3 info4 (n5.tmod 500)
                    (fun v_c13 => κ (AV.bool ([] == toStr v_c13)) []))
                   (κ (AV.bool false) [])))))
               (none))))))
          (fun vg1_c14 _b_c15 b_2_c16 => mdExtract R keyN1 key2 infoN3 info4
           (fun v_c17 => mm4Sum R keyN1 key2 infoN3 info4
            (fun v_c18 => cond (!v_c17 == v_c18)
             (κ (AV.bool false) [])
             (mKept R 0 (some v_c3) false b_c4 infoN3 info4
              (fun v_c19 b_c20 b_2_c21 => cond (true && false == b_c20 && b_2_c21.length.beq b_c4.length && true && true)
               (cond (!v_c19)
                (κ (AV.bool false) [])
                (cond (decide (n5.tmod 500 < 0))
                 (cond ((↑(olen (some vg1_c14) b_2_c16.length 0) : Int) == 0)
                  (mNum R 0
                   (fun v_c22 => κ (AV.bool (v_c22 == 1)) []))
                  (κ (AV.bool false) []))
                 (cond (decide (n5.tmod 500 > 8160))
                  (cond ((↑(olen (some vg1_c14) b_2_c16.length 0) : Int) == 0)
                   (mNum R 0
                    (fun v_c23 => κ (AV.bool (v_c23 == 1)) []))
                   (κ (AV.bool false) []))
                  (mrdExpand R keyN1 key2 infoN3 info4 (n5.tmod 500)
                   (fun v_c24 => κ (AV.bool (toStr (cut (some vg1_c14) 0 b_2_c16) == toStr v_c24)) [])))))
               (none))))))))
        (mBytes R infoN3 info4
         (fun v_c25 b_c26 => mdExpand R keyN1 key2 none (cut (some v_c25) 0 b_c26) n5
          (fun v_c27 => mdExtract R keyN1 key2 infoN3 info4
           (fun v_c28 => mm4Sum R keyN1 key2 infoN3 info4
            (fun v_c29 => cond (!v_c28 == v_c29)
             (κ (AV.bool false) [])
             (mKept R 0 (some v_c25) false b_c26 infoN3 info4
              (fun v_c30 b_c31 b_2_c32 => cond (true && false == b_c31 && b_2_c32.length.beq b_c26.length && true && true)
               (cond (!v_c30)
                (κ (AV.bool false) [])
                (cond (decide (n5 < 0))
                 (mNum R v_c27
                  (fun v_c33 => κ (AV.bool (v_c33 == 1)) []))
                 (cond (decide (n5 > 8160))
                  (mNum R v_c27
                   (fun v_c34 => κ (AV.bool (v_c34 == 1)) []))
                  (cond (v_c27.beq 0)
                   (mrdExpand R keyN1 key2 infoN3 info4 n5
                    (fun v_c35 => κ (AV.bool ([] == toStr v_c35)) []))
                   (κ (AV.bool false) [])))))
               (none))))))
          (fun vg1_c36 _b_c37 b_2_c38 => mdExtract R keyN1 key2 infoN3 info4
           (fun v_c39 => mm4Sum R keyN1 key2 infoN3 info4
            (fun v_c40 => cond (!v_c39 == v_c40)
             (κ (AV.bool false) [])
             (mKept R 0 (some v_c25) false b_c26 infoN3 info4
              (fun v_c41 b_c42 b_2_c43 => cond (true && false == b_c42 && b_2_c43.length.beq b_c26.length && true && true)
               (cond (!v_c41)
                (κ (AV.bool false) [])
                (cond (decide (n5 < 0))
                 (cond ((↑(olen (some vg1_c36) b_2_c38.length 0) : Int) == 0)
                  (mNum R 0
                   (fun v_c44 => κ (AV.bool (v_c44 == 1)) []))
                  (κ (AV.bool false) []))
                 (cond (decide (n5 > 8160))
                  (cond ((↑(olen (some vg1_c36) b_2_c38.length 0) : Int) == 0)
                   (mNum R 0
                    (fun v_c45 => κ (AV.bool (v_c45 == 1)) []))
                   (κ (AV.bool false) []))
                  (mrdExpand R keyN1 key2 infoN3 info4 n5
                   (fun v_c46 => κ (AV.bool (toStr (cut (some vg1_c36) 0 b_2_c38) == toStr v_c46)) [])))))
               (none)))))))))
       (mBytes R infoN3 info4
        (fun v_c47 b_c48 => mdExpand R keyN1 key2 none (cut (some v_c47) 0 b_c48) n5
         (fun v_c49 => mdExtract R keyN1 key2 infoN3 info4
          (fun v_c50 => mm4Sum R keyN1 key2 infoN3 info4
           (fun v_c51 => cond (!v_c50 == v_c51)
            (κ (AV.bool false) [])
            (mKept R 0 (some v_c47) false b_c48 infoN3 info4
             (fun v_c52 b_c53 b_2_c54 => cond (true && false == b_c53 && b_2_c54.length.beq b_c48.length && true && true)
              (cond (!v_c52)
               (κ (AV.bool false) [])
               (cond (decide (n5 < 0))
                (mNum R v_c49
                 (fun v_c55 => κ (AV.bool (v_c55 == 1)) []))
                (cond (decide (n5 > 8160))
                 (mNum R v_c49
                  (fun v_c56 => κ (AV.bool (v_c56 == 1)) []))
                 (cond (v_c49.beq 0)
                  (mrdExpand R keyN1 key2 infoN3 info4 n5
                   (fun v_c57 => κ (AV.bool ([] == toStr v_c57)) []))
                  (κ (AV.bool false) [])))))
              (none))))))
         (fun vg1_c58 _b_c59 b_2_c60 => mdExtract R keyN1 key2 infoN3 info4
          (fun v_c61 => mm4Sum R keyN1 key2 infoN3 info4
           (fun v_c62 => cond (!v_c61 == v_c62)
            (κ (AV.bool false) [])
            (mKept R 0 (some v_c47) false b_c48 infoN3 info4
             (fun v_c63 b_c64 b_2_c65 => cond (true && false == b_c64 && b_2_c65.length.beq b_c48.length && true && true)
              (cond (!v_c63)
               (κ (AV.bool false) [])
               (cond (decide (n5 < 0))
                (cond ((↑(olen (some vg1_c58) b_2_c60.length 0) : Int) == 0)
                 (mNum R 0
                  (fun v_c66 => κ (AV.bool (v_c66 == 1)) []))
                 (κ (AV.bool false) []))
                (cond (decide (n5 > 8160))
                 (cond ((↑(olen (some vg1_c58) b_2_c60.length 0) : Int) == 0)
                  (mNum R 0
                   (fun v_c67 => κ (AV.bool (v_c67 == 1)) []))
                  (κ (AV.bool false) []))
                 (mrdExpand R keyN1 key2 infoN3 info4 n5
                  (fun v_c68 => κ (AV.bool (toStr (cut (some vg1_c58) 0 b_2_c60) == toStr v_c68)) [])))))
              (none)))))))))))) := by kernel_rfl
theorem eq (malive05 : alive05.Ty) (mBytes : Bytes.Ty) (mdExpand : dExpand.Ty) (mdExtract : dExtract.Ty) (mm4Sum : m4Sum.Ty) (mKept : Kept.Ty) (mNum : Num.Ty) (mrdExpand : rdExpand.Ty) {R : Type} (N : Nat) (κ : AV → List Blk → Option R) (keyN1 : Option Bool) (key2 : List Int) (infoN3 : Option Bool) (info4 : List Int) (n5 : Int) : evF (g malive05 mBytes mdExpand mdExtract mm4Sum mKept mNum mrdExpand) an N Tryd.f13 [AV.isl IntKind.u8 keyN1 key2, AV.isl IntKind.u8 infoN3 info4, AV.int IntKind.i64 n5] [] κ =
  m malive05 mBytes mdExpand mdExtract mm4Sum mKept mNum mrdExpand N keyN1 key2 infoN3 info4 n5 (fun v => κ (AV.bool v) []) := by
  rw [tree]
  kernel_rfl
abbrev Ty : Type 1 := ∀ R : Type, (Option Bool) → (List Int) → (Option Bool) → (List Int) → Int → (Bool → Option R) → Option R
def con (f : Ty) : Con := fun R args bs κ => match args, bs with
  | [AV.isl IntKind.u8 keyN1 key2, AV.isl IntKind.u8 infoN3 info4, AV.int IntKind.i64 n5], [] => f R keyN1 key2 infoN3 info4 n5 (fun v => κ (AV.bool v) [])
  | _, _ => none
theorem con_eq (f : Ty) (R : Type) (κ : AV → List Blk → Option R) (keyN1 : Option Bool) (key2 : List Int) (infoN3 : Option Bool) (info4 : List Int) (n5 : Int) : con f R [AV.isl IntKind.u8 keyN1 key2, AV.isl IntKind.u8 infoN3 info4, AV.int IntKind.i64 n5] [] κ = f R keyN1 key2 infoN3 info4 n5 (fun v => κ (AV.bool v) []) := rfl
noncomputable def M (N : Nat) : Ty := fun R keyN1 key2 infoN3 info4 n5 kr0 => m (alive05.M N) (Bytes.M N) (dExpand.M N) (dExtract.M N) (m4Sum.M N) (Kept.M N) (Num.M N) (rdExpand.M N) (R := R) N keyN1 key2 infoN3 info4 n5 kr0
def gts : List (Nat × AV) := [(0, .err 1), (1, .err 2), (2, .err 3), (3, .err 4), (4, .err 5), (5, .err 6), (6, .err 7), (7, .err 8), (8, .err 9), (9, .err 10), (10, .err 11), (11, .err 12), (12, .err 13), (13, .err 14), (14, .err 15), (15, .err 16), (16, .err 17), (17, .err 18), (18, .err 19), (19, .ints .u32 64 [1116352408, 1899447441, 3049323471, 3921009573, 961987163, 1508970993, 2453635748, 2870763221, 3624381080, 310598401, 607225278, 1426881987, 1925078388, 2162078206, 2614888103, 3248222580, 3835390401, 4022224774, 264347078, 604807628, 770255983, 1249150122, 1555081692, 1996064986, 2554220882, 2821834349, 2952996808, 3210313671, 3336571891, 3584528711, 113926993, 338241895, 666307205, 773529912, 1294757372, 1396182291, 1695183700, 1986661051, 2177026350, 2456956037, 2730485921, 2820302411, 3259730800, 3345764771, 3516065817, 3600352804, 4094571909, 275423344, 430227734, 506948616, 659060556, 883997877, 958139571, 1322822218, 1537002063, 1747873779, 1955562222, 2024104815, 2227730452, 2361852424, 2428436474, 2756734187, 3204031479, 3329325298])]
theorem gok (N : Nat) : GOk (g (alive05.M N) (Bytes.M N) (dExpand.M N) (dExtract.M N) (m4Sum.M N) (Kept.M N) (Num.M N) (rdExpand.M N)) := giW_ok (giD_ok hm (by intro p hp; cases hp) (gtL_ok (by decide)) (ovL_ok (by
    intro p hp
    simp only [List.mem_cons, List.not_mem_nil, or_false] at hp
    rcases hp with rfl | rfl | rfl | rfl | rfl | rfl | rfl | rfl
    · exact ⟨(alive05.ok N).gt (gtL_sub (by repeat (first | exact subG_nil _ | refine subG_cons (by kernel_rfl) ?_))) (gtL_ok (by decide)), _, Tryd.func34, by kernel_rfl, by kernel_rfl⟩
    · exact ⟨(Bytes.ok N).gt (gtL_sub (by repeat (first | exact subG_nil _ | refine subG_cons (by kernel_rfl) ?_))) (gtL_ok (by decide)), _, Tryd.func16, by kernel_rfl, by kernel_rfl⟩
    · exact ⟨(dExpand.ok N).gt (gtL_sub (by repeat (first | exact subG_nil _ | refine subG_cons (by kernel_rfl) ?_))) (gtL_ok (by decide)), _, Tryd.func36, by kernel_rfl, by kernel_rfl⟩
    · exact ⟨(dExtract.ok N).gt (gtL_sub (by repeat (first | exact subG_nil _ | refine subG_cons (by kernel_rfl) ?_))) (gtL_ok (by decide)), _, Tryd.func37, by kernel_rfl, by kernel_rfl⟩
    · exact ⟨(m4Sum.ok N).gt (gtL_sub (by repeat (first | exact subG_nil _ | refine subG_cons (by kernel_rfl) ?_))) (gtL_ok (by decide)), _, Tryd.func32, by kernel_rfl, by kernel_rfl⟩
    · exact ⟨(Kept.ok N).gt (gtL_sub (by repeat (first | exact subG_nil _ | refine subG_cons (by kernel_rfl) ?_))) (gtL_ok (by decide)), _, Tryd.func19, by kernel_rfl, by kernel_rfl⟩
    · exact ⟨(Num.ok N).gt (gtL_sub (by repeat (first | exact subG_nil _ | refine subG_cons (by kernel_rfl) ?_))) (gtL_ok (by decide)), _, Tryd.func28, by kernel_rfl, by kernel_rfl⟩
    · exact ⟨(rdExpand.ok N).gt (gtL_sub (by repeat (first | exact subG_nil _ | refine subG_cons (by kernel_rfl) ?_))) (gtL_ok (by decide)), _, Tryd.func38, by kernel_rfl, by kernel_rfl⟩
)) 1)
theorem ok (N : Nat) : SoundC Tryd.prog (gtL gts) 13 (con (M N)) := by
  refine SoundC.mono (evF_ok (gok N) hm an N Tryd.func13) fun R args bs κ r h => ?_
  unfold con at h
  split at h
  · exact (eq (alive05.M N) (Bytes.M N) (dExpand.M N) (dExtract.M N) (m4Sum.M N) (Kept.M N) (Num.M N) (rdExpand.M N) N κ _ _ _ _ _).trans h
  · cases h
end DeriveExpands

end Go.Proofs.YtildbbihjaaloaaDoor.fn
