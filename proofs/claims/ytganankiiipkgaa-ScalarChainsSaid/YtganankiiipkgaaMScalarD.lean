/- What the scalars' references come to. -/
import Derived.Test.YtganankiiipkgaaMScalarC
namespace Go.Proofs.Ytganankiiipkgaa.fn
open Go Go.Proofs Go.Ev Go.Dg

abbrev lrow : List Int := [0, 16, 0, 0, 0, 0, 0, 0, 0, 0, 0, 0, 0, 0, 0, 0, 0, 20, 222, 249, 222, 162, 247, 156, 214, 88, 18, 99, 26, 92, 245, 211, 237]
theorem lrow_eq : lrow = nn (dig 256 33 l).reverse := by decide +kernel

/-- The number of a row of digits, the high one first. -/
def vb (l : List Nat) : Nat := vl 256 l.reverse
theorem vb_cons (x : Nat) (xs : List Nat) : vb (x :: xs) = x * 256 ^ xs.length + vb xs := by
  unfold vb
  rw [List.reverse_cons, vl_append, List.length_reverse]
  simp only [vl, Nat.mul_zero, Nat.add_zero]
  rw [Nat.mul_comm, Nat.add_comm]
theorem vb_lt {xs : List Nat} (h : ∀ x ∈ xs, x < 256) : vb xs < 256 ^ xs.length := by
  have := vl_lt (B := 256) (l := xs.reverse) fun x hx => h x (by simpa using hx)
  simpa [vb] using this

theorem less_row {R : Type} (N : Nat) (r : Bool → Option R) (z : Option Bool) :
    ∀ (xs ys pre pre' : List Nat) (m : Nat), lrow = nn (pre' ++ ys) → xs.length = ys.length → pre.length = pre'.length → pre.length + xs.length = 33 → xs.length < m → (∀ x ∈ xs, x < 256) → (∀ y ∈ ys, y < 256) →
      rless.L3 (rmodulus.M N) N (fun _ a _ t => r (decide (a.getD t.toNat 0 < lrow.getD (0 + t.toNat) 0))) (fun _ _ _ _ => r false) m z (nn (pre ++ xs)) 33 (pre.length : Int) = r (decide (vb xs < vb ys)) := by
  intro xs
  induction xs with
  | nil =>
    intro ys pre pre' m h0 h1 h3 h5 hm _ _
    obtain ⟨m, rfl⟩ : ∃ k, m = k + 1 := ⟨m - 1, by simp at hm; omega⟩
    have hp : (pre.length : Int) = 33 := by simp at h5; omega
    have hr : ys = [] := by simpa using h1.symm
    unfold rless.L3
    rw [hp, hr, decide_eq_false (by omega), cond_false]
    simp [vb, vl]
  | cons x xs ih =>
    intro ys pre pre' m h0 h1 h3 h5 hm hx hy
    obtain ⟨m, rfl⟩ : ∃ k, m = k + 1 := ⟨m - 1, by simp at hm; omega⟩
    cases ys with
    | nil => simp at h1
    | cons y ys =>
      have hx0 := hx x (by simp)
      have hy0 := hy y (by simp)
      simp only [List.length_cons] at h1 h5 hm
      unfold rless.L3
      have c1 : decide ((pre.length : Int) < 33) = true := decide_eq_true (by omega)
      have c2 : decide (0 ≤ (pre.length : Int)) = true := decide_eq_true (by omega)
      have c3 : decide ((pre.length : Int) < ((nn (pre ++ x :: xs)).length : Int)) = true := decide_eq_true (by simp; omega)
      have g1 : (nn (pre ++ x :: xs)).getD (pre.length : Int).toNat 0 = (x : Int) := app_getD pre x xs rfl
      have g2 : ([0, 16, 0, 0, 0, 0, 0, 0, 0, 0, 0, 0, 0, 0, 0, 0, 0, 20, 222, 249, 222, 162, 247, 156, 214, 88, 18, 99, 26, 92, 245, 211, 237] : List Int).getD (0 + (pre.length : Int).toNat) 0 = (y : Int) := by
        rw [Nat.zero_add]
        have := app_getD pre' y ys (i := (pre.length : Int)) (by omega)
        rw [← h0] at this; exact this
      have hvx := vb_lt (xs := xs) fun z hz => hx z (by simp [hz])
      have hvy := vb_lt (xs := ys) fun z hz => hy z (by simp [hz])
      simp only [c1, c2, c3, cond_true, g1, g2]
      by_cases hxy : x = y
      · subst hxy
        have e5 : IntKind.i64.wrap ((pre.length : Int) + 1) = ((pre ++ [x]).length : Int) := by rw [wrap_i64z _ (by omega) (by omega)]; simp
        rw [show ((x : Int) != (x : Int)) = false by simp, cond_false, e5, app_next pre x xs, ih ys (pre ++ [x]) (pre' ++ [x]) m (by rw [h0]; simp) (by omega) (by simp; omega) (by simp; omega) (by omega) (fun z hz => hx z (by simp [hz])) (fun z hz => hy z (by simp [hz]))]
        rw [vb_cons, vb_cons, show xs.length = ys.length by omega]
        congr 1
        rw [Bool.eq_iff_iff, decide_eq_true_iff, decide_eq_true_iff]; omega
      · rw [show ((x : Int) != (y : Int)) = true by simp; omega, cond_true]
        congr 1
        rw [vb_cons, vb_cons, show xs.length = ys.length by omega, Bool.eq_iff_iff, decide_eq_true_iff, decide_eq_true_iff]
        rw [show xs.length = ys.length by omega] at hvx
        constructor
        · intro h
          have : (x + 1) * 256 ^ ys.length ≤ y * 256 ^ ys.length := Nat.mul_le_mul_right _ (by omega)
          rw [Nat.add_mul, Nat.one_mul] at this
          omega
        · intro h
          rcases Nat.lt_or_ge y x with g | g
          · have : (y + 1) * 256 ^ ys.length ≤ x * 256 ^ ys.length := Nat.mul_le_mul_right _ (by omega)
            rw [Nat.add_mul, Nat.one_mul] at this
            omega
          · omega

theorem rless_eq {R : Type} (N : Nat) (hN : 100 < N) (z : Option Bool) (v : Nat) (hv : v < 256 ^ 33) (r : Bool → Option R) : rless.M N R z (nn (dig 256 33 v).reverse) r = r (decide (v < l)) := by
  show rless.m (rmodulus.M N) N z _ r = _
  unfold rless.m
  show rless.L3 (rmodulus.M N) N _ _ N z _ _ 0 = _
  have e : ((nn (dig 256 33 v).reverse).length : Int) = 33 := by simp [dig_length]
  rw [e]
  have hb : ∀ u, ∀ x ∈ (dig 256 33 u).reverse, x < 256 := fun u x hx => dig_lt (by decide) 33 u x (by simpa using hx)
  have h := less_row N r z (dig 256 33 v).reverse (dig 256 33 l).reverse [] [] N lrow_eq (by simp [dig_length]) rfl (by simp [dig_length]) (by simp [dig_length]; omega) (hb v) (hb l)
  simp only [List.nil_append, List.length_nil] at h
  refine Eq.trans h ?_
  unfold vb
  rw [List.reverse_reverse, List.reverse_reverse, vl_dig, vl_dig, Nat.mod_eq_of_lt hv, Nat.mod_eq_of_lt (show l < 256 ^ 33 by decide +kernel)]

/-- A row less l. -/
theorem sub_row {R : Type} (N : Nat) (ke : Option Bool → List Int → Int → Int → Int → List Int → Option R) (z : Option Bool) (b : List Int) (i5 : Int) :
    ∀ (xs ys done done' : List Nat) (o m : Nat), lrow = nn (ys.reverse ++ done') → xs.length = ys.length → done.length = done'.length → xs.length + done.length = 33 → xs.length < m → o ≤ 1 → (∀ x ∈ xs, x < 256) → (∀ y ∈ ys, y < 256) →
      rMod.L10 (rmodulus.M N) (rless.M N) N ke m z b i5 (o : Int) ((xs.length : Int) - 1) (nn (xs.reverse ++ done)) = ke z b i5 ((bor 256 o xs ys).2 : Int) (-1) (nn ((bor 256 o xs ys).1.reverse ++ done)) := by
  intro xs
  induction xs with
  | nil =>
    intro ys done done' o m h0 h1 h3 h5 hm ho _ _
    obtain ⟨m, rfl⟩ : ∃ k, m = k + 1 := ⟨m - 1, by simp at hm; omega⟩
    have hr : ys = [] := by simpa using h1.symm
    unfold rMod.L10
    rw [hr, decide_eq_false (by simp), cond_false]
    rfl
  | cons x xs ih =>
    intro ys done done' o m h0 h1 h3 h5 hm ho hx hy
    obtain ⟨m, rfl⟩ : ∃ k, m = k + 1 := ⟨m - 1, by simp at hm; omega⟩
    cases ys with
    | nil => simp at h1
    | cons y ys =>
      have hx0 := hx x (by simp)
      have hy0 := hy y (by simp)
      simp only [List.length_cons] at h1 h5 hm
      unfold rMod.L10
      have ek : (((x :: xs).length : Nat) : Int) - 1 = (xs.length : Int) := by simp
      have el : (nn ((x :: xs).reverse ++ done)) = nn (xs.reverse ++ x :: done) := by simp
      have eL : ([0, 16, 0, 0, 0, 0, 0, 0, 0, 0, 0, 0, 0, 0, 0, 0, 0, 20, 222, 249, 222, 162, 247, 156, 214, 88, 18, 99, 26, 92, 245, 211, 237] : List Int) = nn (ys.reverse ++ y :: done') := by
        have : lrow = _ := h0
        rw [show lrow = ([0, 16, 0, 0, 0, 0, 0, 0, 0, 0, 0, 0, 0, 0, 0, 0, 0, 20, 222, 249, 222, 162, 247, 156, 214, 88, 18, 99, 26, 92, 245, 211, 237] : List Int) from rfl] at this
        rw [this]; simp
      rw [ek, el, eL]
      have c1 : decide ((xs.length : Int) ≥ 0) = true := decide_eq_true (by omega)
      have c2 : decide (0 ≤ (xs.length : Int)) = true := decide_eq_true (by omega)
      have c3 : decide ((xs.length : Int) < ((olen none (nn (xs.reverse ++ x :: done)).length 0 : Nat) : Int)) = true := decide_eq_true (by simp [olen]; omega)
      have c4 : decide ((xs.length : Int) < 33) = true := decide_eq_true (by omega)
      have g1 : (nn (xs.reverse ++ x :: done)).getD (0 + (xs.length : Int).toNat) 0 = (x : Int) := by rw [Nat.zero_add]; exact app_getD _ x _ (by simp)
      have g2 : (nn (ys.reverse ++ y :: done')).getD (0 + (xs.length : Int).toNat) 0 = (y : Int) := by rw [Nat.zero_add]; exact app_getD _ y _ (by simp; omega)
      have e1 : IntKind.i64.wrap (IntKind.i64.wrap ((x : Int) - y) - o) = (x : Int) - y - o := by
        rw [wrap_i64z ((x : Int) - y) (by omega) (by omega), wrap_i64z _ (by omega) (by omega)]
      have ekn : IntKind.i64.wrap ((xs.length : Int) - 1) = (xs.length : Int) - 1 := wrap_i64z _ (by omega) (by omega)
      have hset : ∀ v : Nat, (nn (xs.reverse ++ x :: done)).set (0 + (xs.length : Int).toNat) (v : Int) = nn (xs.reverse ++ v :: done) := by
        intro v
        rw [Nat.zero_add, app_set xs.reverse x done (by simp)]; simp
      have hz : (x + 256 - y - o) / 256 = if x < y + o then 0 else 1 := by split <;> omega
      simp only [c1, c2, c3, c4, cond_true, g1, g2, e1, ekn]
      have ih' := fun v o' (ho' : o' ≤ 1) => ih ys (v :: done) (y :: done') o' m (by rw [h0]; simp) (by omega) (by simp; omega) (by simp; omega) (by omega) ho' (fun z hz => hx z (by simp [hz])) (fun z hz => hy z (by simp [hz]))
      by_cases hc : x < y + o
      · have e6 : IntKind.i64.wrap ((x : Int) - y - o + 256) = (((x + 256 - y - o) % 256 : Nat) : Int) := by rw [wrap_i64z _ (by omega) (by omega)]; omega
        rw [decide_eq_true (show (x : Int) - y - o < 0 by omega), cond_true, e6, hset]
        have := ih' ((x + 256 - y - o) % 256) 1 (by omega)
        rw [show ((1 : Nat) : Int) = 1 from rfl] at this
        rw [this]
        simp only [bor, hz, if_pos hc]
        simp
      · have e6 : (x : Int) - y - o = (((x + 256 - y - o) % 256 : Nat) : Int) := by omega
        rw [decide_eq_false (show ¬ (x : Int) - y - o < 0 by omega), cond_false, e6, hset]
        have := ih' ((x + 256 - y - o) % 256) 0 (by omega)
        rw [show ((0 : Nat) : Int) = 0 from rfl] at this
        rw [this]
        simp only [bor, hz, if_neg hc]
        simp

theorem sub_eq {R : Type} (N : Nat) (hN : 100 < N) (ke : Option Bool → List Int → Int → Int → Int → List Int → Option R) (z : Option Bool) (b : List Int) (i5 : Int) (v : Nat) (hv : v < 256 ^ 33) (hl : l ≤ v) :
    ∃ o, rMod.L10 (rmodulus.M N) (rless.M N) N ke N z b i5 0 32 (nn (dig 256 33 v).reverse) = ke z b i5 o (-1) (nn (dig 256 33 (v - l)).reverse) := by
  have h := sub_row N ke z b i5 (dig 256 33 v) (dig 256 33 l) [] [] 0 N (by rw [List.append_nil]; exact lrow_eq) (by simp [dig_length]) rfl (by simp [dig_length]) (by simp [dig_length]; omega) (by omega) (dig_lt (by decide) _ _) (dig_lt (by decide) _ _)
  rw [dig_length, List.append_nil, List.append_nil, bor_dig (by decide) 33 _ _ 0 (dig_length _ _ _) (dig_length _ _ _) (dig_lt (by decide) _ _) (dig_lt (by decide) _ _) (by omega), vl_dig, vl_dig, Nat.mod_eq_of_lt hv, Nat.mod_eq_of_lt (show l < 256 ^ 33 by decide +kernel)] at h
  refine ⟨((lt01 v (l + 0) : Nat) : Int), Eq.trans h ?_⟩
  simp only
  rw [← dig_mod 33 (v + 256 ^ 33 - l - 0), show v + 256 ^ 33 - l - 0 = (v - l) + 256 ^ 33 by omega, Nat.add_mod_right, dig_mod]

theorem less_rounds {R : Type} (N : Nat) (hN : 1000 < N) (ke : Option Bool → List Int → Int → List Int → Bool → Option R) (z : Option Bool) (b : List Int) (i5 : Int) :
    ∀ (q m v : Nat), v < 256 ^ 33 → v / l = q → q < m → rMod.L7 (rmodulus.M N) (rless.M N) N ke m z b i5 (nn (dig 256 33 v).reverse) = ke z b i5 (nn (dig 256 33 (v % l)).reverse) true := by
  intro q
  induction q with
  | zero =>
    intro m v hv hq hm
    obtain ⟨m, rfl⟩ : ∃ k, m = k + 1 := ⟨m - 1, by omega⟩
    have hlt : v < l := by
      rcases Nat.lt_or_ge v l with g | g
      · exact g
      · have := Nat.div_pos g l_pos; omega
    unfold rMod.L7
    rw [rless_eq N (by omega) none v hv, decide_eq_true hlt, Nat.mod_eq_of_lt hlt]
    rfl
  | succ q ih =>
    intro m v hv hq hm
    obtain ⟨m, rfl⟩ : ∃ k, m = k + 1 := ⟨m - 1, by omega⟩
    have hge : l ≤ v := by
      rcases Nat.lt_or_ge v l with g | g
      · rw [Nat.div_eq_of_lt g] at hq; omega
      · exact g
    unfold rMod.L7
    rw [rless_eq N (by omega) none v hv, decide_eq_false (by omega)]
    simp only [Bool.not_false, cond_true]
    obtain ⟨o, ho⟩ := sub_eq N (by omega) (fun b0 b0_1 i5 _ _ h1 => rMod.L7 (rmodulus.M N) (rless.M N) N ke m b0 b0_1 i5 h1) z b i5 v hv hge
    refine Eq.trans ho ?_
    have h1 : (v - l) / l = q := by
      have := Nat.sub_mul_div_of_le v l 1 (by omega)
      rw [Nat.mul_one] at this; omega
    have h2 : (v - l) % l = v % l := (Nat.mod_eq_sub_mod hge).symm
    rw [ih m (v - l) (by omega) h1 (by omega), h2]

theorem mod_rows {R : Type} (N : Nat) (hN : 1000 < N) (ke : Option Bool → List Int → Int → List Int → Option R) (z : Option Bool) (n V : Nat) (hn : n ≤ 100) :
    ∀ (i m : Nat), i ≤ n → i < m → rMod.L4 (rmodulus.M N) (rless.M N) N ke m z (nn (dig 256 n V)) ((i : Int) - 1) (nn (dig 256 33 (V / 256 ^ i % l)).reverse) = ke z (nn (dig 256 n V)) (-1) (nn (dig 256 33 (V % l)).reverse) := by
  intro i
  induction i with
  | zero =>
    intro m _ hm
    obtain ⟨m, rfl⟩ : ∃ k, m = k + 1 := ⟨m - 1, by omega⟩
    unfold rMod.L4
    rw [decide_eq_false (by omega), cond_false]
    simp
  | succ i ih =>
    intro m hi hm
    obtain ⟨m, rfl⟩ : ∃ k, m = k + 1 := ⟨m - 1, by omega⟩
    unfold rMod.L4
    rw [show (((i + 1 : Nat) : Int) - 1) = (i : Int) by omega]
    generalize hx : V / 256 ^ (i + 1) % l = x
    have hxl : x < l := by rw [← hx]; exact Nat.mod_lt _ l_pos
    have hl32 : l < 256 ^ 32 := by decide +kernel
    have hlen : (nn (dig 256 33 x).reverse).length = 33 := by simp [dig_length]
    have hcut : cut none 0 ([] ++ cut (some (olen none (nn (dig 256 33 x).reverse).length 0 - 1)) 1 (nn (dig 256 33 x).reverse)) = nn (dig 256 32 x).reverse := by
      rw [hlen]
      simp only [cut, olen, List.nil_append, List.drop_zero]
      rw [show 33 = 32 + 1 from rfl, dig_snoc, List.reverse_append]
      simp only [List.reverse_cons, List.reverse_nil, List.nil_append, List.cons_append, nn, List.map_cons, List.drop_succ_cons, List.drop_zero]
      exact List.take_of_length_le (by simp [dig_length])
    have c0 : decide ((i : Int) ≥ 0) = true := decide_eq_true (by omega)
    have c1 : decide (1 ≤ ((olen none (nn (dig 256 33 x).reverse).length 0 : Nat) : Int)) = true := by rw [hlen]; rfl
    have c2 : decide ((0 + (cut (some (olen none (nn (dig 256 33 x).reverse).length 0 - 1)) 1 (nn (dig 256 33 x).reverse)).length) * 8 ≤ 140737488355328) = true := decide_eq_true (by
      simp only [cut, List.length_take, List.length_drop, hlen, olen]; omega)
    have c3 : decide (0 + (cut (some (olen none (nn (dig 256 33 x).reverse).length 0 - 1)) 1 (nn (dig 256 33 x).reverse)).length ≤ 140737488355328) = true := decide_eq_true (by
      simp only [cut, List.length_take, List.length_drop, hlen, olen]; omega)
    have c4 : decide (0 ≤ (i : Int)) = true := decide_eq_true (by omega)
    have c5 : decide ((i : Int) < ((nn (dig 256 n V)).length : Int)) = true := decide_eq_true (by simp [dig_length]; omega)
    have c6 : decide (((nn (dig 256 32 x).reverse).length + 1) * 8 ≤ 140737488355328) = true := decide_eq_true (by simp [dig_length])
    have c7 : decide ((nn (dig 256 32 x).reverse).length + 1 ≤ 140737488355328) = true := decide_eq_true (by simp [dig_length])
    simp only [c0, c1, c2, c3, c4, c5, cond_true]
    rw [hcut]
    simp only [c6, c7, cond_true]
    rw [Int.toNat_natCast, nn_getD, dig_getD n V _ (by omega)]
    have hd : V / 256 ^ i % 256 < 256 := Nat.mod_lt _ (by decide)
    rw [wrap_i64z _ (by omega) (by omega)]
    have e1 : nn (dig 256 32 x).reverse ++ [((V / 256 ^ i % 256 : Nat) : Int)] = nn (dig 256 33 (256 * x + V / 256 ^ i % 256)).reverse := by
      have : dig 256 33 (256 * x + V / 256 ^ i % 256) = (V / 256 ^ i % 256) :: dig 256 32 x := by
        rw [show 33 = 32 + 1 from rfl]
        simp only [dig]
        rw [Nat.mul_add_mod, Nat.mod_mod, Nat.mul_add_div (by decide), Nat.div_eq_of_lt hd, Nat.add_zero]
      rw [this]
      simp [nn]
    rw [e1]
    have hlt : 256 * x + V / 256 ^ i % 256 < 256 ^ 33 := by
      have : 256 * (x + 1) ≤ 256 * 256 ^ 32 := Nat.mul_le_mul_left _ (by omega)
      rw [show (256 : Nat) ^ 33 = 256 * 256 ^ 32 by rw [Nat.pow_succ, Nat.mul_comm]]
      omega
    have hq : (256 * x + V / 256 ^ i % 256) / l < N := by
      have : (256 * x + V / 256 ^ i % 256) / l < 256 := Nat.div_lt_of_lt_mul (by
        have : 256 * (x + 1) ≤ 256 * l := Nat.mul_le_mul_left _ (by omega)
        rw [Nat.mul_comm l]; omega)
      omega
    rw [less_rounds N hN _ z _ _ _ N _ hlt rfl hq]
    have e3 : (256 * x + V / 256 ^ i % 256) % l = V / 256 ^ i % l := by
      have : V / 256 ^ i = 256 * (V / 256 ^ (i + 1)) + V / 256 ^ i % 256 := by
        rw [Nat.pow_succ, ← Nat.div_div_eq_div_mul]; omega
      rw [← hx, Nat.add_mod, Nat.mul_mod, Nat.mod_mod, ← Nat.mul_mod, ← Nat.add_mod, ← this]
    rw [e3, wrap_i64z _ (by omega) (by omega), ih m (by omega) (by omega)]

theorem out_loop {R : Type} (N : Nat) (ke : Int → List Int → List Int → Option R) (v : Nat) :
    ∀ (d i m : Nat), i + d = 32 → d < m → rMod.L20 (rmodulus.M N) (rless.M N) N ke m (i : Int) (nn (dig 256 33 v).reverse) (nn (dig 256 i v ++ List.replicate d 0)) = ke 32 (nn (dig 256 33 v).reverse) (nn (dig 256 32 v)) := by
  intro d
  induction d with
  | zero =>
    intro i m h hm
    obtain ⟨m, rfl⟩ : ∃ k, m = k + 1 := ⟨m - 1, by omega⟩
    obtain rfl : i = 32 := by omega
    unfold rMod.L20
    rw [decide_eq_false (by omega), cond_false]
    simp
  | succ d ih =>
    intro i m h hm
    obtain ⟨m, rfl⟩ : ∃ k, m = k + 1 := ⟨m - 1, by omega⟩
    unfold rMod.L20
    have e0 : IntKind.i64.wrap (32 - (i : Int)) = ((32 - i : Nat) : Int) := by rw [wrap_i64z _ (by omega) (by omega)]; omega
    rw [e0]
    have c0 : decide ((i : Int) < 32) = true := decide_eq_true (by omega)
    have c1 : decide (0 ≤ ((32 - i : Nat) : Int)) = true := decide_eq_true (by omega)
    have c2 : decide (((32 - i : Nat) : Int) < ((olen none (nn (dig 256 33 v).reverse).length 0 : Nat) : Int)) = true := decide_eq_true (by simp [olen, dig_length]; omega)
    have c4 : decide (0 ≤ (i : Int)) = true := decide_eq_true (by omega)
    simp only [c0, c1, c2, c4, cond_true]
    have g1 : (nn (dig 256 33 v).reverse).getD (0 + ((32 - i : Nat) : Int).toNat) 0 = ((v / 256 ^ i % 256 : Nat) : Int) := by
      rw [Nat.zero_add, Int.toNat_natCast, nn_getD, List.getD_eq_getElem?_getD, List.getElem?_reverse (by simp [dig_length]; omega), dig_length, show 33 - 1 - (32 - i) = i by omega, dig_get 33 v i (by omega)]
      rfl
    rw [g1, wrap_u8, Nat.mod_mod, replicate_set (d + 1) _ (dig 256 i v) (by simp [dig_length]) (by omega), ← dig_snoc, Nat.add_sub_cancel]
    rw [wrap_i64z _ (by omega) (by omega), show ((i : Int) + 1) = ((i + 1 : Nat) : Int) by omega, ih (i + 1) m (by omega) (by omega)]

theorem rMod_eq {R : Type} (N : Nat) (hN : 1000 < N) (z : Option Bool) (n V : Nat) (hn : n ≤ 100) (hV : V < 256 ^ n) (r : List Int → Option R) : rMod.M N R z (nn (dig 256 n V)) r = r (nn (dig 256 32 (V % l))) := by
  show rMod.m (rmodulus.M N) (rless.M N) N z _ r = _
  unfold rMod.m
  show rMod.L4 (rmodulus.M N) (rless.M N) N _ N z _ _ _ = _
  have e0 : IntKind.i64.wrap (((nn (dig 256 n V)).length : Int) - 1) = (n : Int) - 1 := by
    rw [show ((nn (dig 256 n V)).length : Int) = n by simp [dig_length], wrap_i64z _ (by omega) (by omega)]
  have e2 : ([0, 0, 0, 0, 0, 0, 0, 0, 0, 0, 0, 0, 0, 0, 0, 0, 0, 0, 0, 0, 0, 0, 0, 0, 0, 0, 0, 0, 0, 0, 0, 0, 0] : List Int) = nn (dig 256 33 (V / 256 ^ n % l)).reverse := by
    rw [Nat.div_eq_of_lt hV, Nat.zero_mod, dig_zero]; decide +kernel
  rw [e0, e2, mod_rows N hN _ z n V hn n N (Nat.le_refl _) (by omega)]
  exact out_loop N (fun _ _ h => r h) (V % l) 32 0 N rfl (by omega)
end Go.Proofs.Ytganankiiipkgaa.fn
