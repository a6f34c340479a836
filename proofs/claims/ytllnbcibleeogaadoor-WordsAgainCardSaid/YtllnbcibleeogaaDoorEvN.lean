/- The evaluator's soundness: the other operations. -/
import Derived.Test.YtllnbcibleeogaaDoorEvM
namespace Go.Ev
set_option linter.unusedSimpArgs false
set_option linter.unusedVariables false

theorem bytesE_ok {G : Gi} {R : Type} {κ : Kop R} {r : R} {o : Oper} {src dst : TypeId} {x : Operand} {t : List AV} {look : Nat → Blk} {nid : Nat} (ho : o.op = .convert src dst x)
    (h0 : bytesE G nid κ src dst (evO t x) = some r) : ∃ v us, κ v us = some r ∧ OpOk G o t look nid v us := by
  unfold bytesE at h0
  split at h0
  · rename_i d e l hs hd hax
    split at h0
    · rename_i he
      refine ⟨_, _, h0, fun X hXG => ?_⟩
      subst hXG
      refine fun h L a w next Q I hvv hl hr hk' => .inl ?_
      have hn := hr 0 (by simp [resv, ho])
      simp only [Nat.add_zero] at hn
      have e1 := hvv x (by simp [ho, Op.operands])
      rw [hax] at e1
      have e1 : a.eval x = .string ⟨l.toArray⟩ := e1
      have hge : l.length ≤ (Question.appendCap l.length 0 e).cut (w.tape w.drawn (Question.appendCap l.length 0 e)) := by simp [Question.cut]
      generalize hcap : (Question.appendCap l.length 0 e).cut (w.tape w.drawn (Question.appendCap l.length 0 e)) = cap at *
      have hsz : (ByteArray.mk l.toArray).size = l.length := rfl
      have hfz : ∀ (W : World) (c : Array Value), c.size = cap → (W.alloc (.cells c e)).freeze ⟨W.heap.size, cap, none⟩ 1 = W.alloc (.cells c e (cap, cap + 1)) := by
        intro W c hc
        simp only [World.freeze, World.alloc, Nat.one_ne_zero, if_false]
        congr 1
        apply Array.ext
        · simp
        · intro i h1 h2
          by_cases hi : W.heap.size = i
          · subst hi; simp [Array.getElem_modify]
          · have hlt : i < W.heap.size := by simp at h2; omega
            simp [Array.getElem_modify, Array.getElem_push, hi, hlt]
      have hrun : (Conv.stringToBytes e ⟨l.toArray⟩).run X.G.P w = .ok (.slice (some ⟨w.heap.size, 0, none⟩) l.length cap)
          (w.drew.alloc (.cells ((l.toArray.map fun (b : UInt8) => Value.int .u8 b.toNat) ++ Array.replicate (cap - l.length) (Value.int .u8 0)) e (cap, cap + 1))) := by
        have hs1 : ((l.toArray.map fun (b : UInt8) => Value.int .u8 b.toNat) ++ Array.replicate (cap - l.length) (Value.int .u8 0)).size = cap := by simp; omega
        rw [← hfz w.drew _ hs1]
        have hsh : (w.drew.alloc (.cells ((l.toArray.map fun (b : UInt8) => Value.int .u8 b.toNat) ++ Array.replicate (cap - l.length) (Value.int .u8 0)) e)).shape? w.heap.size = some (e, cap) := by
          simp only [World.shape?, World.alloc, World.size_drew, Array.getElem?_push_size]
          have : w.drew.heap = w.heap := rfl
          rw [this]
          simp
          omega
        simp only [Conv.stringToBytes, hsz, Sem.run_bind, run_choose, Question.forced, Bool.false_eq_true, if_false, hcap, Result.andThen_ok, newRow, run_newObj, World.drew_eq, World.alloc_eq, World.size_drew, Sem.run_pure, markStringish, run_shape, hsh, run_freeze]
      obtain ⟨L', I', hle, hval⟩ := I.newRowF hn (k := .u8) (l := ofStr l) (fun _ z hz => by obtain ⟨b, _, rfl⟩ := List.mem_map.1 hz; exact Int.natCast_nonneg _) e
        (cs := (l.toArray.map fun (b : UInt8) => Value.int .u8 b.toNat) ++ Array.replicate (cap - l.length) (Value.int .u8 0)) (fun i hi => by
          simp only [ofStr, List.length_map] at hi
          rw [Array.getElem?_append_left (by simpa using hi)]
          simp [ofStr, hi]) (by simp [ofStr]) cap (by simpa [ofStr] using hge) (by simp; omega) w.drew (.inr rfl) (cap, cap + 1) (fun i hi => by simp; omega)
      unfold Oper.wp
      have hex : (execOp a.eval o).run X.G.P w = .ok (.value (.slice (some ⟨w.heap.size, 0, none⟩) l.length cap))
          (w.drew.alloc (.cells ((l.toArray.map fun (b : UInt8) => Value.int .u8 b.toNat) ++ Array.replicate (cap - l.length) (Value.int .u8 0)) e (cap, cap + 1))) := by
        simp only [execOp, ho, e1, convert, Sem.run_bind, run_underlying' hs, run_underlying' hd, Result.andThen_ok, run_underlying' he, hrun, Sem.run_pure]
      rw [hex]
      have hl' : (ofStr l).length = l.length := by simp [ofStr]
      rw [hl'] at hval
      exact hk' _ L' _ (by simpa [applyU] using I') (by simpa [applyU] using hle) (by simpa [applyU] using hval)
    · cases h0
  · cases h0

end Go.Ev
