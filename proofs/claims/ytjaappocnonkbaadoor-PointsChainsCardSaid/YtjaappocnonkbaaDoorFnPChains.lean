/- What a law of points computes, with the proof; printed by a program. -/
import Derived.Test.YtjaappocnonkbaaDoorProg
import Derived.Test.YtjaappocnonkbaaDoorEv4
import Derived.Test.YtjaappocnonkbaaDoorFnPointsL
namespace Go.Proofs.YtjaappocnonkbaaDoor.fn
open Go Go.Proofs Go.Ev

/-! ### Tryd.f5: PointsChains -/
namespace PointsChains
def an : Anns := ⟨fun i => findA i [], fun i => findA i [], false, fun _ => none⟩
noncomputable def g (malive12 : alive12.Ty) (msome12 : some12.Ty) (mpAdd : pAdd.Ty) (mpSame : pSame.Ty) (mpZero : pZero.Ty) (mpTimes : pTimes.Ty) (mplusK : plusK.Ty) (mpBase : pBase.Ty) (mlKey : lKey.Ty) : Gi := giD Tryd.prog (gtL [(0, .err 4), (19, .ints .u64 10 [134216512, 134217726, 134217726, 134217726, 134217726, 134217726, 134217726, 134217726, 134217726, 134217726]), (20, .ints .u64 10 [34513072, 59165138, 38243406, 1750207, 53429016, 58652137, 13633939, 58469549, 8409025, 712905])]) (fun _ => an) 0 [] (ovL [(8, alive12.con malive12), (16, some12.con msome12), (19, pAdd.con mpAdd), (15, pSame.con mpSame), (20, pZero.con mpZero), (17, pTimes.con mpTimes), (21, plusK.con mplusK), (22, pBase.con mpBase), (23, lKey.con mlKey)]) 1
noncomputable def m (malive12 : alive12.Ty) (msome12 : some12.Ty) (mpAdd : pAdd.Ty) (mpSame : pSame.Ty) (mpZero : pZero.Ty) (mpTimes : pTimes.Ty) (mplusK : plusK.Ty) (mpBase : pBase.Ty) (mlKey : lKey.Ty) {R : Type} (_N : Nat) (a1 : List Int) (b2 : List Int) (n3 : Int) (kr0 : Bool → Option R) : Option R :=
  malive12 R
   (fun v_c83 => cond (!v_c83)
    (kr0 false)
    (msome12 R a1
     (fun v_c84 v_1_c85 v_2_c86 v_3_c87 _v_4_c88 _v_5_c89 _v_6_c90 => msome12 R b2
      (fun v_c91 v_1_c92 v_2_c93 v_3_c94 _v_4_c95 _v_5_c96 _v_6_c97 => mpAdd R v_c84 v_1_c85 v_2_c86 v_3_c87 v_c91 v_1_c92 v_2_c93 v_3_c94
       (fun v_c98 v_1_c99 v_2_c100 v_3_c101 => mpAdd R v_c91 v_1_c92 v_2_c93 v_3_c94 v_c84 v_1_c85 v_2_c86 v_3_c87
        (fun v_c102 v_1_c103 v_2_c104 v_3_c105 => mpSame R v_c98 v_1_c99 v_2_c100 v_3_c101 v_c102 v_1_c103 v_2_c104 v_3_c105
         (fun v_c106 => cond (!v_c106)
          (kr0 false)
          (mpAdd R v_c84 v_1_c85 v_2_c86 v_3_c87 v_c91 v_1_c92 v_2_c93 v_3_c94
           (fun v_c107 v_1_c108 v_2_c109 v_3_c110 => mpAdd R v_c107 v_1_c108 v_2_c109 v_3_c110 v_c84 v_1_c85 v_2_c86 v_3_c87
            (fun v_c111 v_1_c112 v_2_c113 v_3_c114 => mpAdd R v_c84 v_1_c85 v_2_c86 v_3_c87 v_c84 v_1_c85 v_2_c86 v_3_c87
             (fun v_c115 v_1_c116 v_2_c117 v_3_c118 => mpAdd R v_c115 v_1_c116 v_2_c117 v_3_c118 v_c91 v_1_c92 v_2_c93 v_3_c94
              (fun v_c119 v_1_c120 v_2_c121 v_3_c122 => mpSame R v_c111 v_1_c112 v_2_c113 v_3_c114 v_c119 v_1_c120 v_2_c121 v_3_c122
               (fun v_c123 => cond (!v_c123)
                (kr0 false)
                (mpZero R
                 (fun v_c124 v_1_c125 v_2_c126 v_3_c127 => mpAdd R v_c84 v_1_c85 v_2_c86 v_3_c87 v_c124 v_1_c125 v_2_c126 v_3_c127
                  (fun v_c128 v_1_c129 v_2_c130 v_3_c131 => mpSame R v_c128 v_1_c129 v_2_c130 v_3_c131 v_c84 v_1_c85 v_2_c86 v_3_c87
                   (fun v_c132 => cond (!v_c132)
                    (kr0 false)
                    (mpTimes R v_c84 v_1_c85 v_2_c86 v_3_c87 ([IntKind.u8.wrap n3, IntKind.u8.wrap (ishr IntKind.u16 n3 8), 0, 0, 0, 0, 0, 0, 0, 0, 0, 0, 0, 0, 0, 0, 0, 0, 0, 0, 0, 0, 0, 0, 0, 0, 0, 0, 0, 0, 0, 0])
                     (fun v_c133 v_1_c134 v_2_c135 v_3_c136 => mpAdd R v_c133 v_1_c134 v_2_c135 v_3_c136 v_c84 v_1_c85 v_2_c86 v_3_c87
                      (fun v_c137 v_1_c138 v_2_c139 v_3_c140 => mplusK R ([IntKind.u8.wrap n3, IntKind.u8.wrap (ishr IntKind.u16 n3 8), 0, 0, 0, 0, 0, 0, 0, 0, 0, 0, 0, 0, 0, 0, 0, 0, 0, 0, 0, 0, 0, 0, 0, 0, 0, 0, 0, 0, 0, 0])
                       (fun v_c141 => mpTimes R v_c84 v_1_c85 v_2_c86 v_3_c87 v_c141
                        (fun v_c142 v_1_c143 v_2_c144 v_3_c145 => mpSame R v_c137 v_1_c138 v_2_c139 v_3_c140 v_c142 v_1_c143 v_2_c144 v_3_c145
                         (fun v_c146 => cond v_c146
                          (mpTimes R v_c84 v_1_c85 v_2_c86 v_3_c87 ([1, 0, 0, 0, 0, 0, 0, 0, 0, 0, 0, 0, 0, 0, 0, 0, 0, 0, 0, 0, 0, 0, 0, 0, 0, 0, 0, 0, 0, 0, 0, 0])
                           (fun v_c147 v_1_c148 v_2_c149 v_3_c150 => mpSame R v_c147 v_1_c148 v_2_c149 v_3_c150 v_c84 v_1_c85 v_2_c86 v_3_c87
                            (fun v_c151 => cond v_c151
                             (mpBase R
                              (fun v_c152 v_1_c153 v_2_c154 v_3_c155 => mlKey R
                               (mpTimes R v_c152 v_1_c153 v_2_c154 v_3_c155 ([237, 211, 245, 92, 26, 99, 18, 88, 214, 156, 247, 162, 222, 249, 222, 20, 0, 0, 0, 0, 0, 0, 0, 0, 0, 0, 0, 0, 0, 0, 0, 16])
                                (fun v_c156 v_1_c157 v_2_c158 v_3_c159 => mpZero R
                                 (fun v_c160 v_1_c161 v_2_c162 v_3_c163 => mpSame R v_c156 v_1_c157 v_2_c158 v_3_c159 v_c160 v_1_c161 v_2_c162 v_3_c163
                                  (fun v_c164 => kr0 v_c164))))))
                             (kr0 false))))
                          (kr0 false))))))))))))))))))))))))
theorem tree (malive12 : alive12.Ty) (msome12 : some12.Ty) (mpAdd : pAdd.Ty) (mpSame : pSame.Ty) (mpZero : pZero.Ty) (mpTimes : pTimes.Ty) (mplusK : plusK.Ty) (mpBase : pBase.Ty) (mlKey : lKey.Ty) {R : Type} (N : Nat) (κ : AV → List Blk → Option R) (a1 : List Int) (b2 : List Int) (n3 : Int) : evF (g malive12 msome12 mpAdd mpSame mpZero mpTimes mplusK mpBase mlKey) an N Tryd.f5 [AV.ints IntKind.u8 32 a1, AV.ints IntKind.u8 32 b2, AV.int IntKind.u16 n3] [] κ =
  malive12 R
   (fun v_c83 => cond (!v_c83)
    (κ (AV.bool false) [])
    (msome12 R a1
     (fun v_c84 v_1_c85 v_2_c86 v_3_c87 _v_4_c88 _v_5_c89 _v_6_c90 => msome12 R b2
      (fun v_c91 v_1_c92 v_2_c93 v_3_c94 _v_4_c95 _v_5_c96 _v_6_c97 => mpAdd R v_c84 v_1_c85 v_2_c86 v_3_c87 v_c91 v_1_c92 v_2_c93 v_3_c94
       (fun v_c98 v_1_c99 v_2_c100 v_3_c101 => mpAdd R v_c91 v_1_c92 v_2_c93 v_3_c94 v_c84 v_1_c85 v_2_c86 v_3_c87
        (fun v_c102 v_1_c103 v_2_c104 v_3_c105 => mpSame R v_c98 v_1_c99 v_2_c100 v_3_c101 v_c102 v_1_c103 v_2_c104 v_3_c105
         (fun v_c106 => cond (!v_c106)
          (κ (AV.bool false) [])
          (mpAdd R v_c84 v_1_c85 v_2_c86 v_3_c87 v_c91 v_1_c92 v_2_c93 v_3_c94
           (fun v_c107 v_1_c108 v_2_c109 v_3_c110 => mpAdd R v_c107 v_1_c108 v_2_c109 v_3_c110 v_c84 v_1_c85 v_2_c86 v_3_c87
            (fun v_c111 v_1_c112 v_2_c113 v_3_c114 => mpAdd R v_c84 v_1_c85 v_2_c86 v_3_c87 v_c84 v_1_c85 v_2_c86 v_3_c87
             (fun v_c115 v_1_c116 v_2_c117 v_3_c118 => mpAdd R v_c115 v_1_c116 v_2_c117 v_3_c118 v_c91 v_1_c92 v_2_c93 v_3_c94
              (fun v_c119 v_1_c120 v_2_c121 v_3_c122 => mpSame R v_c111 v_1_c112 v_2_c113 v_3_c114 v_c119 v_1_c120 v_2_c121 v_3_c122
               (fun v_c123 => cond (!v_c123)
                (κ (AV.bool false) [])
                (mpZero R
                 (fun v_c124 v_1_c125 v_2_c126 v_3_c127 => mpAdd R v_c84 v_1_c85 v_2_c86 v_3_c87 v_c124 v_1_c125 v_2_c126 v_3_c127
                  (fun v_c128 v_1_c129 v_2_c130 v_3_c131 => mpSame R v_c128 v_1_c129 v_2_c130 v_3_c131 v_c84 v_1_c85 v_2_c86 v_3_c87
                   (fun v_c132 => cond (!v_c132)
                    (κ (AV.bool false) [])
                    (mpTimes R v_c84 v_1_c85 v_2_c86 v_3_c87 ([IntKind.u8.wrap n3, IntKind.u8.wrap (ishr IntKind.u16 n3 8), 0, 0, 0, 0, 0, 0, 0, 0, 0, 0, 0, 0, 0, 0, 0, 0, 0, 0, 0, 0, 0, 0, 0, 0, 0, 0, 0, 0, 0, 0])
                     (fun v_c133 v_1_c134 v_2_c135 v_3_c136 => mpAdd R v_c133 v_1_c134 v_2_c135 v_3_c136 v_c84 v_1_c85 v_2_c86 v_3_c87
                      (fun v_c137 v_1_c138 v_2_c139 v_3_c140 => mplusK R ([IntKind.u8.wrap n3, IntKind.u8.wrap (ishr IntKind.u16 n3 8), 0, 0, 0, 0, 0, 0, 0, 0, 0, 0, 0, 0, 0, 0, 0, 0, 0, 0, 0, 0, 0, 0, 0, 0, 0, 0, 0, 0, 0, 0])
                       (fun v_c141 => mpTimes R v_c84 v_1_c85 v_2_c86 v_3_c87 v_c141
                        (fun v_c142 v_1_c143 v_2_c144 v_3_c145 => mpSame R v_c137 v_1_c138 v_2_c139 v_3_c140 v_c142 v_1_c143 v_2_c144 v_3_c145
                         (fun v_c146 => cond v_c146
                          (mpTimes R v_c84 v_1_c85 v_2_c86 v_3_c87 ([1, 0, 0, 0, 0, 0, 0, 0, 0, 0, 0, 0, 0, 0, 0, 0, 0, 0, 0, 0, 0, 0, 0, 0, 0, 0, 0, 0, 0, 0, 0, 0])
                           (fun v_c147 v_1_c148 v_2_c149 v_3_c150 => mpSame R v_c147 v_1_c148 v_2_c149 v_3_c150 v_c84 v_1_c85 v_2_c86 v_3_c87
                            (fun v_c151 => cond v_c151
                             (mpBase R
                              (fun v_c152 v_1_c153 v_2_c154 v_3_c155 => mlKey R
                               (mpTimes R v_c152 v_1_c153 v_2_c154 v_3_c155 ([237, 211, 245, 92, 26, 99, 18, 88, 214, 156, 247, 162, 222, 249, 222, 20, 0, 0, 0, 0, 0, 0, 0, 0, 0, 0, 0, 0, 0, 0, 0, 16])
                                (fun v_c156 v_1_c157 v_2_c158 v_3_c159 => mpZero R
                                 (fun v_c160 v_1_c161 v_2_c162 v_3_c163 => mpSame R v_c156 v_1_c157 v_2_c158 v_3_c159 v_c160 v_1_c161 v_2_c162 v_3_c163
                                  (fun v_c164 => κ (AV.bool v_c164) []))))))
                             (κ (AV.bool false) []))))
                          (κ (AV.bool false) [])))))))))))))))))))))))) := by kernel_rfl
theorem eq (malive12 : alive12.Ty) (msome12 : some12.Ty) (mpAdd : pAdd.Ty) (mpSame : pSame.Ty) (mpZero : pZero.Ty) (mpTimes : pTimes.Ty) (mplusK : plusK.Ty) (mpBase : pBase.Ty) (mlKey : lKey.Ty) {R : Type} (N : Nat) (κ : AV → List Blk → Option R) (a1 : List Int) (b2 : List Int) (n3 : Int) : evF (g malive12 msome12 mpAdd mpSame mpZero mpTimes mplusK mpBase mlKey) an N Tryd.f5 [AV.ints IntKind.u8 32 a1, AV.ints IntKind.u8 32 b2, AV.int IntKind.u16 n3] [] κ =
  m malive12 msome12 mpAdd mpSame mpZero mpTimes mplusK mpBase mlKey N a1 b2 n3 (fun v => κ (AV.bool v) []) := by
  rw [tree]
  kernel_rfl
abbrev Ty : Type 1 := ∀ R : Type, (List Int) → (List Int) → Int → (Bool → Option R) → Option R
def con (f : Ty) : Con := fun R args bs κ => match args, bs with
  | [AV.ints IntKind.u8 32 a1, AV.ints IntKind.u8 32 b2, AV.int IntKind.u16 n3], [] => f R a1 b2 n3 (fun v => κ (AV.bool v) [])
  | _, _ => none
theorem con_eq (f : Ty) (R : Type) (κ : AV → List Blk → Option R) (a1 : List Int) (b2 : List Int) (n3 : Int) : con f R [AV.ints IntKind.u8 32 a1, AV.ints IntKind.u8 32 b2, AV.int IntKind.u16 n3] [] κ = f R a1 b2 n3 (fun v => κ (AV.bool v) []) := rfl
noncomputable def M (N : Nat) : Ty := fun R a1 b2 n3 kr0 => m (alive12.M N) (some12.M N) (pAdd.M N) (pSame.M N) (pZero.M N) (pTimes.M N) (plusK.M N) (pBase.M N) (lKey.M N) (R := R) N a1 b2 n3 kr0
def gts : List (Nat × AV) := [(0, .err 4), (19, .ints .u64 10 [134216512, 134217726, 134217726, 134217726, 134217726, 134217726, 134217726, 134217726, 134217726, 134217726]), (20, .ints .u64 10 [34513072, 59165138, 38243406, 1750207, 53429016, 58652137, 13633939, 58469549, 8409025, 712905])]
theorem gok (N : Nat) : GOk (g (alive12.M N) (some12.M N) (pAdd.M N) (pSame.M N) (pZero.M N) (pTimes.M N) (plusK.M N) (pBase.M N) (lKey.M N)) := giD_ok hm (by intro p hp; cases hp) (gtL_ok (by decide)) (ovL_ok (by
    intro p hp
    simp only [List.mem_cons, List.not_mem_nil, or_false] at hp
    rcases hp with rfl | rfl | rfl | rfl | rfl | rfl | rfl | rfl | rfl
    · exact ⟨(alive12.ok N).gt (gtL_sub (by repeat (first | exact subG_nil _ | refine subG_cons (by kernel_rfl) ?_))) (gtL_ok (by decide)), _, Tryd.func8, by kernel_rfl, by kernel_rfl⟩
    · exact ⟨(some12.ok N).gt (gtL_sub (by repeat (first | exact subG_nil _ | refine subG_cons (by kernel_rfl) ?_))) (gtL_ok (by decide)), _, Tryd.func16, by kernel_rfl, by kernel_rfl⟩
    · exact ⟨(pAdd.ok N).gt (gtL_sub (by repeat (first | exact subG_nil _ | refine subG_cons (by kernel_rfl) ?_))) (gtL_ok (by decide)), _, Tryd.func19, by kernel_rfl, by kernel_rfl⟩
    · exact ⟨(pSame.ok N).gt (gtL_sub (by repeat (first | exact subG_nil _ | refine subG_cons (by kernel_rfl) ?_))) (gtL_ok (by decide)), _, Tryd.func15, by kernel_rfl, by kernel_rfl⟩
    · exact ⟨(pZero.ok N).gt (gtL_sub (by repeat (first | exact subG_nil _ | refine subG_cons (by kernel_rfl) ?_))) (gtL_ok (by decide)), _, Tryd.func20, by kernel_rfl, by kernel_rfl⟩
    · exact ⟨(pTimes.ok N).gt (gtL_sub (by repeat (first | exact subG_nil _ | refine subG_cons (by kernel_rfl) ?_))) (gtL_ok (by decide)), _, Tryd.func17, by kernel_rfl, by kernel_rfl⟩
    · exact ⟨(plusK.ok N).gt (gtL_sub (by repeat (first | exact subG_nil _ | refine subG_cons (by kernel_rfl) ?_))) (gtL_ok (by decide)), _, Tryd.func21, by kernel_rfl, by kernel_rfl⟩
    · exact ⟨(pBase.ok N).gt (gtL_sub (by repeat (first | exact subG_nil _ | refine subG_cons (by kernel_rfl) ?_))) (gtL_ok (by decide)), _, Tryd.func22, by kernel_rfl, by kernel_rfl⟩
    · exact ⟨(lKey.ok N).gt (gtL_sub (by repeat (first | exact subG_nil _ | refine subG_cons (by kernel_rfl) ?_))) (gtL_ok (by decide)), _, Tryd.func23, by kernel_rfl, by kernel_rfl⟩
)) 1
theorem ok (N : Nat) : SoundC Tryd.prog (gtL gts) 5 (con (M N)) := by
  refine SoundC.mono (evF_ok (gok N) hm an N Tryd.func5) fun R args bs κ r h => ?_
  unfold con at h
  split at h
  · exact (eq (alive12.M N) (some12.M N) (pAdd.M N) (pSame.M N) (pZero.M N) (pTimes.M N) (plusK.M N) (pBase.M N) (lKey.M N) N κ _ _ _).trans h
  · cases h
end PointsChains

end Go.Proofs.YtjaappocnonkbaaDoor.fn
