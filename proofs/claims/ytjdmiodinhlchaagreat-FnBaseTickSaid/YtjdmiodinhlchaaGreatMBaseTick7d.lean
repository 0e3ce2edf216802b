/- Lemmas (several texts in one). -/
import Derived.Test.YtjdmiodinhlchaaGreatMBaseTick7c
/- Bases, drawn. -/
namespace Go.Proofs.YtjdmiodinhlchaaGreat.Code
open Go Go.Ev Go.Proofs
set_option maxRecDepth 100000
set_option maxHeartbeats 4000000
set_option linter.unusedSimpArgs false
set_option linter.unusedVariables false
def Nxt (I : Nat → Env → Hp → Prop) (n : Nat) (e : Env) (X : Hp) : Prop := ∃ m, m < n ∧ I m e X
def CellB (c : V) (b : Ba) : Prop := c = .d (baD b) ∨ (c = .agg [.d (.int .i64 b.now), .nils 7] ∧ b.ents = [])
theorem rDELS_g {b : Ba} (hb : BaG b) (ks : List Txt) : BaG (rDELS b ks).1 := by
  unfold rDELS
  have key : ∀ (n i : Nat) (s : Ba × Nat), BaG s.1 → BaG ((List.range' i n).foldl (fun s i => delStep ks i s) s).1 := by
    intro n
    induction n with
    | zero => intro i s h; exact h
    | succ n ih => intro i s h; rw [List.range'_succ, List.foldl_cons]; exact ih _ _ (delStep_g ks i s h)
  exact key _ _ _ hb
theorem rEXS_same (b : Ba) (ks : List Txt) : (rEXS b ks).1 = b := by
  unfold rEXS
  have key : ∀ (n i : Nat) (s : Ba × Nat), ((List.range' i n).foldl (fun s i => exStep ks i s) s).1 = s.1 := by
    intro n
    induction n with
    | zero => intro i s; rfl
    | succ n ih => intro i s; rw [List.range'_succ, List.foldl_cons, ih]; rfl
  exact key _ _ _
theorem ite_g {b : Ba} {c : Prop} [Decidable c] {x y : Ba × Re} (hx : BaG x.1) (hy : BaG y.1) : BaG (if c then x else y).1 := by split <;> assumption
theorem rUNTIL_g {b : Ba} (hb : BaG b) (k : Txt) (n : Int) : BaG (rUNTIL b k n).1 := by
  unfold rUNTIL
  exact ite_g (b := b) hb (ite_g (b := b) (rDel_g hb k) (rKeep_g hb _ _))
theorem rAct_g {b : Ba} (hb : BaG b) (w : Txt) (r : List Txt) : BaG (rAct b w r).1 := by
  unfold rAct
  repeat' (with_reducible refine ite_g (b := b) ?_ ?_)
  all_goals first
    | exact hb
    | (unfold rADD; exact ite_g (b := b) (rKeep_g hb _ _) hb)
    | (unfold rSET; exact rKeep_g hb _ _)
    | (unfold rAPPEND; exact ite_g (b := b) hb (rKeep_g hb _ _))
    | (unfold rGETRANGE; exact ite_g (b := b) hb hb)
    | (unfold rPUSH; exact ite_g (b := b) (rKeep_g hb _ _) hb)
    | (unfold rPOP; exact ite_g (b := b) (rKeep_g hb _ _) hb)
    | (unfold rLRANGE; exact ite_g (b := b) hb hb)
    | (unfold rLTRIM; exact ite_g (b := b) (rKeep_g hb _ _) hb)
    | (unfold rLSET; exact ite_g (b := b) (ite_g (b := b) (rKeep_g hb _ _) hb) hb)
    | (unfold rLREM; exact ite_g (b := b) (rKeep_g hb _ _) hb)
    | (unfold rSADD; exact ite_g (b := b) (rKeep_g hb _ _) hb)
    | (unfold rSREM; exact rKeep_g hb _ _)
    | (unfold rZADD; exact ite_g (b := b) (ite_g (b := b) (rKeep_g hb _ _) hb) hb)
    | (unfold rZINCRBY; exact ite_g (b := b) (ite_g (b := b) (rKeep_g hb _ _) hb) hb)
    | (unfold rZRANGE; exact ite_g (b := b) hb hb)
    | (unfold rZRANGEBYSCORE; exact ite_g (b := b) hb hb)
    | (unfold rZREM; exact rKeep_g hb _ _)
    | (unfold rHSET; exact ite_g (b := b) (rKeep_g hb _ _) hb)
    | (unfold rHDEL; exact rKeep_g hb _ _)
    | (unfold rHINCRBY; exact ite_g (b := b) (ite_g (b := b) (rKeep_g hb _ _) hb) hb)
    | (unfold rPERSIST; exact rKeep_g hb _ _)
    | (unfold rEXPIRE; exact ite_g (b := b) (rUNTIL_g hb _ _) hb)
    | (unfold rEXPIREAT; exact ite_g (b := b) (rUNTIL_g hb _ _) hb)
    | (unfold rRENAME; exact ite_g (b := b) hb (rKeep_g (rDel_g hb _) _ _))
    | (unfold rDEL; exact rDELS_g hb _)
    | (unfold rEXISTS; dsimp only; rw [rEXS_same]; exact hb)
    | (unfold rFLUSH; exact ⟨by simp, by simp, hb.now⟩)
theorem rDo_g {b : Ba} (hb : BaG b) (args : List Txt) : BaG (rDo b args).1 := by
  unfold rDo
  exact ite_g (b := b) (rAct_g hb _ _) hb
def BaseI (H : Hp) (r : Nat) (bs : List Int) (A : Ev.Obj) (q0 : Int) (k : Nat) (e : Env) (X : Hp) : Prop :=
  ∃ (b : Ba) (c : V) (q : Int), BaG b ∧ CellB c b ∧ X = rh H r bs q [A, .row 0 2 [c]] ∧ e.get 0 = .ptr r 0 0 0 ∧ e.get 2 = .ptr (hlen H) 0 0 0 ∧ e.get 3 = .ptr (hlen H + 1) 0 0 0 ∧ e.get 4 = .d (.int .i64 k) ∧ q0 ≤ q ∧ q ≤ q0 + 30 * (14 - k) ∧ k ≤ 14
def BaseE (H : Hp) (r : Nat) (bs : List Int) (A : Ev.Obj) (q0 : Int) (o : Out) (e : Env) (X : Hp) : Prop :=
  o = .exit 0 ∧ ∃ (b : Ba) (c : V) (q : Int), BaG b ∧ CellB c b ∧ X = rh H r bs q [A, .row 0 2 [c]] ∧ e.get 0 = .ptr r 0 0 0 ∧ e.get 2 = .ptr (hlen H) 0 0 0 ∧ e.get 3 = .ptr (hlen H + 1) 0 0 0 ∧ q0 ≤ q ∧ q ≤ q0 + 500
theorem okArgs_mk {ts : List Txt} (h1 : 1 ≤ ts.length) (h8 : ts.length ≤ 8) (hs : ∀ x ∈ ts, x.length ≤ 40) : okArgs ts = true := (okArgs_iff ts).2 ⟨hs, h1, h8⟩
theorem l_53 (H : Hp) (r : Nat) (bs : List Int) (A : Ev.Obj) (q0 : Int) (hr : r < hlen H) (hb : okBytes bs) (h0 : 0 ≤ q0) (h1 : q0 ≤ 100000000) (k : Nat) (e : Env) (X : Hp) (hI : BaseI H r bs A q0 k e X) :
    Gives (BaseE H r bs A q0) (evLoop (evCode (ev R) R.glob (hlen H) evLoop f53l1) [0, 2, 3, 4] ⟨e, X⟩) := by
  refine loop_while (F := evCode (ev R) R.glob (hlen H) evLoop f53l1) (lv := [0, 2, 3, 4]) (BaseI H r bs A q0) (BaseE H r bs A q0) ?_ k e X hI
  show ∀ n e X, BaseI H r bs A q0 n e X → Gives (Step (Nxt (BaseI H r bs A q0) n) (BaseE H r bs A q0)) _
  rintro n e X ⟨b, c, q, hg, hc, rfl, g0, g2, g3, g4, hq0, hq1, hk⟩
  cases n with
  | zero =>
    simp (maxSteps := 1000000) [evL, rh_push, rh_len, rh_get, rh_get0, rh_set, rh_set0, rh_take, rh_takeN, rh_fzC, rh_fzC0, rh_ap, -List.getD_eq_getElem?_getD, -List.map_map, f53l1, g0, g2, g3, g4]
    exact ⟨rfl, b, c, q, hg, hc, rfl, rfl, rfl, rfl, hq0, by omega⟩
  | succ n =>
    obtain ⟨ts, q1, ho, a1, a2, t1, t8, ts40⟩ := rh_order (l := [A, .row 0 2 [c]]) hr hb (show 0 ≤ q by omega) (show q ≤ 1000000000 by omega)
    simp only [List.length_cons, List.length_nil, List.cons_append, List.nil_append] at ho
    have fz := fun c' => rh_row H [A, .row 0 2 [c'], .row 0 1 ((ts.map D.str).map V.d)] r bs q1 2 2 0 1 ts.length (ts.map D.str) (by omega) rfl (by simp)
    have hd := p_82 b ts hg (okArgs_mk t1 t8 ts40)
    have hdg := rDo_g hg ts
    have g := txts_get ts 0 (by omega)
    have c0 : (0 : Int) < (ts.length : Int) := by omega
    have c1 : 0 < ts.length := by omega
    have cn : (0 : Int) < (n : Int) + 1 := by omega
    have w : IntKind.i64.wrap ((n : Int) + 1 - 1) = (n : Int) := by rw [IntWalk.i64_in _ (by omega)]; omega
    have w' : IntKind.i64.wrap (n : Int) = (n : Int) := IntWalk.i64_in _ (by omega)
    generalize rDo b ts = P at *
    obtain ⟨b1, re⟩ := P
    dsimp only [pairD] at hd hdg
    have pk4 := fun l => rh_pick (H := H) (l := l) (r := r) (bs := bs) (q := q1) 4 hr hb (by omega) (by omega)
    have pk6 := fun l => rh_pick (H := H) (l := l) (r := r) (bs := bs) (q := q1) 6 hr hb (by omega) (by omega)
    have pk61 := fun l => rh_pick (H := H) (l := l) (r := r) (bs := bs) (q := q1 + 1) 6 hr hb (by omega) (by omega)
    have pk46 := fun l => rh_pick (H := H) (l := l) (r := r) (bs := bs) (q := q1 + 1) 4 hr hb (by omega) (by omega)
    have pk461 := fun l => rh_pick (H := H) (l := l) (r := r) (bs := bs) (q := q1 + 1 + 1) 4 hr hb (by omega) (by omega)
    obtain ⟨k40, _⟩ := pickV_in bs (q1 + 1) 4 hb (by omega) (by omega)
    obtain ⟨k41, k42⟩ := pickV_in bs (q1 + 1) 4 hb (by omega) (by omega)
    obtain ⟨k43, k44⟩ := pickV_in bs (q1 + 1 + 1) 4 hb (by omega) (by omega)
    have k42 := k42 (by omega)
    have k44 := k44 (by omega)
    have tk : ∀ (B : Ba) (hB : BaG B) (z : Int), 0 ≤ z → z < 4 → pureCall (ev R) 16 [.d (baD B), .d (.int .i64 z)] = some (.d (baD (vTick B z))) := fun B hB z z0 z1 => p_16 B z hB.sm hB.fit (by have := hB.now; omega) (by omega)
    have tkb1 := tk b hg _ k41 k42
    have tkb2 := tk b hg _ k43 k44
    have tkc1 := tk b1 hdg _ k41 k42
    have tkc2 := tk b1 hdg _ k43 k44
    have vb1 := vTick_g hg (pickV bs (q1 + 1) 4)
    have vb2 := vTick_g hg (pickV bs (q1 + 1 + 1) 4)
    have vc1 := vTick_g hdg (pickV bs (q1 + 1) 4)
    have vc2 := vTick_g hdg (pickV bs (q1 + 1 + 1) 4)
    clear tk k40
    generalize vTick b (pickV bs (q1 + 1) 4) = B1 at *
    generalize vTick b (pickV bs (q1 + 1 + 1) 4) = B2 at *
    generalize vTick b1 (pickV bs (q1 + 1) 4) = C1 at *
    generalize vTick b1 (pickV bs (q1 + 1 + 1) 4) = C2 at *
    by_cases f : ts.getD 0 [] = [70, 76, 85, 83, 72]
    · by_cases f4 : pickV bs q1 4 = 0
      · by_cases f6 : pickV bs (q1 + 1) 6 = 0
        · rcases hc with rfl | ⟨rfl, hn⟩
          · simp (maxSteps := 1000000) [evL, rh_push, rh_len, rh_get, rh_get0, rh_set, rh_set0, rh_take, rh_takeN, rh_fzC, rh_fzC0, rh_ap, -List.getD_eq_getElem?_getD, -List.map_map, f53l1, g0, g2, g3, g4, ho, fz, hd, g, c0, c1, cn, w, w', eq_true f, pk4, pk61, pk461, f4, f6, tkc2]
            exact ⟨n, by omega, C2, _, q1 + 1 + 1 + 1, vc2, .inl rfl, rfl, rfl, rfl, rfl, rfl, by omega, by omega, by omega⟩
          · obtain ⟨now, ents⟩ := b
            dsimp only at hn
            subst hn
            simp (maxSteps := 1000000) [evL, rh_push, rh_len, rh_get, rh_get0, rh_set, rh_set0, rh_take, rh_takeN, rh_fzC, rh_fzC0, rh_ap, -List.getD_eq_getElem?_getD, -List.map_map, f53l1, g0, g2, g3, g4, ho, fz, hd, g, c0, c1, cn, w, w', eq_true f, pk4, pk61, pk461, f4, f6, tkc2, baD_fold0]
            exact ⟨n, by omega, C2, _, q1 + 1 + 1 + 1, vc2, .inl rfl, rfl, rfl, rfl, rfl, rfl, by omega, by omega, by omega⟩
        · rcases hc with rfl | ⟨rfl, hn⟩
          · simp (maxSteps := 1000000) [evL, rh_push, rh_len, rh_get, rh_get0, rh_set, rh_set0, rh_take, rh_takeN, rh_fzC, rh_fzC0, rh_ap, -List.getD_eq_getElem?_getD, -List.map_map, f53l1, g0, g2, g3, g4, ho, fz, hd, g, c0, c1, cn, w, w', eq_true f, pk4, pk61, f4, f6]
            exact ⟨n, by omega, b1, _, q1 + 1 + 1, hdg, .inl rfl, rfl, rfl, rfl, rfl, rfl, by omega, by omega, by omega⟩
          · obtain ⟨now, ents⟩ := b
            dsimp only at hn
            subst hn
            simp (maxSteps := 1000000) [evL, rh_push, rh_len, rh_get, rh_get0, rh_set, rh_set0, rh_take, rh_takeN, rh_fzC, rh_fzC0, rh_ap, -List.getD_eq_getElem?_getD, -List.map_map, f53l1, g0, g2, g3, g4, ho, fz, hd, g, c0, c1, cn, w, w', eq_true f, pk4, pk61, f4, f6, baD_fold0]
            exact ⟨n, by omega, b1, _, q1 + 1 + 1, hdg, .inl rfl, rfl, rfl, rfl, rfl, rfl, by omega, by omega, by omega⟩
      · by_cases f6 : pickV bs (q1 + 1) 6 = 0
        · rcases hc with rfl | ⟨rfl, hn⟩
          · simp (maxSteps := 1000000) [evL, rh_push, rh_len, rh_get, rh_get0, rh_set, rh_set0, rh_take, rh_takeN, rh_fzC, rh_fzC0, rh_ap, -List.getD_eq_getElem?_getD, -List.map_map, f53l1, g0, g2, g3, g4, ho, fz, g, c0, c1, cn, w, w', eq_true f, pk4, pk61, pk461, f4, f6, tkb2]
            exact ⟨n, by omega, B2, _, q1 + 1 + 1 + 1, vb2, .inl rfl, rfl, rfl, rfl, rfl, rfl, by omega, by omega, by omega⟩
          · obtain ⟨now, ents⟩ := b
            dsimp only at hn
            subst hn
            simp (maxSteps := 1000000) [evL, rh_push, rh_len, rh_get, rh_get0, rh_set, rh_set0, rh_take, rh_takeN, rh_fzC, rh_fzC0, rh_ap, -List.getD_eq_getElem?_getD, -List.map_map, f53l1, g0, g2, g3, g4, ho, fz, g, c0, c1, cn, w, w', eq_true f, pk4, pk61, pk461, f4, f6, tkb2, baD_fold0]
            exact ⟨n, by omega, B2, _, q1 + 1 + 1 + 1, vb2, .inl rfl, rfl, rfl, rfl, rfl, rfl, by omega, by omega, by omega⟩
        · simp (maxSteps := 1000000) [evL, rh_push, rh_len, rh_get, rh_get0, rh_set, rh_set0, rh_take, rh_takeN, rh_fzC, rh_fzC0, rh_ap, -List.getD_eq_getElem?_getD, -List.map_map, f53l1, g0, g2, g3, g4, ho, fz, g, c0, c1, cn, w, w', eq_true f, pk4, pk61, f4, f6]
          exact ⟨n, by omega, b, c, q1 + 1 + 1, hg, hc, rfl, rfl, rfl, rfl, rfl, by omega, by omega, by omega⟩
    · by_cases f6 : pickV bs q1 6 = 0
      · rcases hc with rfl | ⟨rfl, hn⟩
        · simp (maxSteps := 1000000) [evL, rh_push, rh_len, rh_get, rh_get0, rh_set, rh_set0, rh_take, rh_takeN, rh_fzC, rh_fzC0, rh_ap, -List.getD_eq_getElem?_getD, -List.map_map, f53l1, g0, g2, g3, g4, ho, fz, hd, g, c0, c1, cn, w, w', eq_false f, pk6, pk46, f6, tkc1]
          exact ⟨n, by omega, C1, _, q1 + 1 + 1, vc1, .inl rfl, rfl, rfl, rfl, rfl, rfl, by omega, by omega, by omega⟩
        · obtain ⟨now, ents⟩ := b
          dsimp only at hn
          subst hn
          simp (maxSteps := 1000000) [evL, rh_push, rh_len, rh_get, rh_get0, rh_set, rh_set0, rh_take, rh_takeN, rh_fzC, rh_fzC0, rh_ap, -List.getD_eq_getElem?_getD, -List.map_map, f53l1, g0, g2, g3, g4, ho, fz, hd, g, c0, c1, cn, w, w', eq_false f, pk6, pk46, f6, tkc1, baD_fold0]
          exact ⟨n, by omega, C1, _, q1 + 1 + 1, vc1, .inl rfl, rfl, rfl, rfl, rfl, rfl, by omega, by omega, by omega⟩
      · rcases hc with rfl | ⟨rfl, hn⟩
        · simp (maxSteps := 1000000) [evL, rh_push, rh_len, rh_get, rh_get0, rh_set, rh_set0, rh_take, rh_takeN, rh_fzC, rh_fzC0, rh_ap, -List.getD_eq_getElem?_getD, -List.map_map, f53l1, g0, g2, g3, g4, ho, fz, hd, g, c0, c1, cn, w, w', eq_false f, pk6, f6]
          exact ⟨n, by omega, b1, _, q1 + 1, hdg, .inl rfl, rfl, rfl, rfl, rfl, rfl, by omega, by omega, by omega⟩
        · obtain ⟨now, ents⟩ := b
          dsimp only at hn
          subst hn
          simp (maxSteps := 1000000) [evL, rh_push, rh_len, rh_get, rh_get0, rh_set, rh_set0, rh_take, rh_takeN, rh_fzC, rh_fzC0, rh_ap, -List.getD_eq_getElem?_getD, -List.map_map, f53l1, g0, g2, g3, g4, ho, fz, hd, g, c0, c1, cn, w, w', eq_false f, pk6, f6, baD_fold0]
          exact ⟨n, by omega, b1, _, q1 + 1, hdg, .inl rfl, rfl, rfl, rfl, rfl, rfl, by omega, by omega, by omega⟩
end Go.Proofs.YtjdmiodinhlchaaGreat.Code
/- Bases, drawn: those that are full, and any. -/
namespace Go.Proofs.YtjdmiodinhlchaaGreat.Code
open Go Go.Ev Go.Proofs
set_option maxRecDepth 100000
set_option maxHeartbeats 4000000
set_option linter.unusedSimpArgs false
set_option linter.unusedVariables false
def xk (m : Nat) : Txt := 120 :: decZ m
theorem xk_two (m : Nat) (h1 : 10 ≤ m) (h2 : m < 100) : xk m = [120, UInt8.ofNat (48 + m / 10), UInt8.ofNat (48 + m % 10)] := by
  unfold xk decZ
  rw [if_neg (by omega), Int.toNat_natCast, decV, dif_neg (by omega), decV, dif_pos (by omega)]
  rfl
theorem xk_inj {m n : Nat} (h1 : 10 ≤ m) (h2 : m < 100) (h3 : 10 ≤ n) (h4 : n < 100) (h : xk m = xk n) : m = n := by
  rw [xk_two m h1 h2, xk_two n h3 h4] at h
  simp only [List.cons.injEq, true_and, and_true] at h
  obtain ⟨a, b⟩ := h
  have a := congrArg UInt8.toNat a
  have b := congrArg UInt8.toNat b
  simp only [UInt8.toNat_ofNat'] at a b
  omega
def seen (n : Nat) (e : En) : Bool := (List.range 40).all fun m => !(decide (n ≤ m) && decide (e.key = xk m))
theorem seen_iff (n : Nat) (e : En) : seen n e = true ↔ ∀ m, n ≤ m → m < 40 → e.key ≠ xk m := by
  unfold seen
  rw [List.all_eq_true]
  constructor
  · intro h m h1 h2 h3
    have := h m (List.mem_range.2 h2)
    simp [h1, h3] at this
  · intro h m hm
    have hm := List.mem_range.1 hm
    by_cases h1 : n ≤ m
    · simp [h1, h m h1 hm]
    · simp [h1]
theorem seen_more {n : Nat} {e : En} (h : seen n e = true) : seen (n + 1) e = true := (seen_iff _ _).2 fun m h1 h2 => (seen_iff _ _).1 h m (by omega) h2
theorem countP_del (p : En → Bool) (es : List En) (k : Nat) (hk : k < es.length) (hp : p (es.getD k default) = false) : (delAt es k).countP p = es.countP p := by
  have h : es = es.take k ++ es.getD k default :: es.drop (k + 1) := by rw [← drop_get es k default hk, List.take_append_drop]
  conv => rhs; rw [h]
  unfold delAt
  rw [List.countP_append, List.countP_append, List.countP_cons_of_neg (by rw [hp]; simp)]
theorem xkE_ok (n : Nat) (h1 : 10 ≤ n) (h2 : n < 40) : enOk ⟨xk n, 0, 1, [], [], [], []⟩ = true := by
  rw [xk_two n h1 (by omega)]
  rfl
theorem put_more {b : Ba} (n : Nat) (h1 : 10 ≤ n) (h2 : n < 40) (hl : b.ents.length < 12) : b.ents.countP (seen n) + 1 ≤ (rPutB b ⟨xk n, 0, 1, [], [], [], []⟩).1.ents.countP (seen (n + 1)) := by
  have hd : (rDel b (xk n)).ents.length < 12 := by have := rDel_len b (xk n); omega
  have hp : rPutB b ⟨xk n, 0, 1, [], [], [], []⟩ = (⟨b.now, insAt (rDel b (xk n)).ents (kAt (rDel b (xk n)).ents (xk n)) ⟨xk n, 0, 1, [], [], [], []⟩⟩, true) := by
    unfold rPutB
    rw [if_neg (by simp [emptyE]), if_pos (by unfold mayPut; rw [xkE_ok n h1 h2]; simp [hd])]
  rw [hp]
  have hs : seen (n + 1) ⟨xk n, 0, 1, [], [], [], []⟩ = true := (seen_iff _ _).2 fun m a c h => by have := xk_inj h1 (by omega) (by omega) (by omega) h; omega
  dsimp only
  unfold insAt
  rw [List.countP_append, List.countP_cons_of_pos hs]
  have h3 : ((rDel b (xk n)).ents.take (kAt (rDel b (xk n)).ents (xk n))).countP (seen (n + 1)) + ((rDel b (xk n)).ents.drop (kAt (rDel b (xk n)).ents (xk n))).countP (seen (n + 1)) = (rDel b (xk n)).ents.countP (seen (n + 1)) := by
    rw [← List.countP_append, List.take_append_drop]
  have h4 : (rDel b (xk n)).ents.countP (seen n) ≤ (rDel b (xk n)).ents.countP (seen (n + 1)) := List.countP_mono_left fun e _ h => seen_more h
  have h5 : (rDel b (xk n)).ents.countP (seen n) = b.ents.countP (seen n) := by
    unfold rDel
    split
    · rename_i hh
      refine countP_del _ _ _ (kHas_lt hh) ?_
      unfold kHas at hh
      simp only [Bool.and_eq_true, decide_eq_true_eq] at hh
      cases hse : seen n (b.ents.getD (kAt b.ents (xk n)) default) with
      | false => rfl
      | true => exact absurd hh.2 ((seen_iff _ _).1 hse n (Nat.le_refl _) h2)
    · rfl
  omega
def XI (H : Hp) (r : Nat) (bs : List Int) (A : Ev.Obj) (q : Int) (j : Nat) (e : Env) (X : Hp) : Prop :=
  ∃ (b : Ba) (c : V) (n : Nat), BaG b ∧ CellB c b ∧ X = rh H r bs q [A, .row 0 2 [c]] ∧ e.get 2 = .ptr (hlen H) 0 0 0 ∧ e.get 3 = .ptr (hlen H + 1) 0 0 0 ∧ e.get 6 = .d (.int .i64 n) ∧ n + j = 22 ∧ 10 ≤ n ∧ n - 10 ≤ b.ents.countP (seen n)
def XE (H : Hp) (r : Nat) (bs : List Int) (A : Ev.Obj) (q : Int) (o : Out) (e : Env) (X : Hp) : Prop :=
  o = .exit 2 ∧ ∃ (b : Ba) (c : V), BaG b ∧ CellB c b ∧ X = rh H r bs q [A, .row 0 2 [c]] ∧ e.get 2 = .ptr (hlen H) 0 0 0 ∧ e.get 3 = .ptr (hlen H + 1) 0 0 0
theorem l_53x (H : Hp) (r : Nat) (bs : List Int) (A : Ev.Obj) (q : Int) (j : Nat) (e : Env) (X : Hp) (hI : XI H r bs A q j e X) :
    Gives (XE H r bs A q) (evLoop (evCode (ev R) R.glob (hlen H) evLoop f53l0) [2, 3, 6] ⟨e, X⟩) := by
  refine loop_while (F := evCode (ev R) R.glob (hlen H) evLoop f53l0) (lv := [2, 3, 6]) (XI H r bs A q) (XE H r bs A q) ?_ j e X hI
  show ∀ n e X, XI H r bs A q n e X → Gives (Step (Nxt (XI H r bs A q) n) (XE H r bs A q)) _
  rintro j e X ⟨b, c, n, hg, hc, rfl, g2, g3, g6, hn, h10, hcnt⟩
  have hle := List.countP_le_length (p := seen n) (l := b.ents)
  by_cases hl : b.ents.length < 12
  · have hj : 0 < j := by omega
    have hl' : (b.ents.length : Int) < 12 := by omega
    have p1 := p_83 (n : Int) (by omega)
    have he : EnQ ⟨xk n, 0, 1, [], [], [], []⟩ := enOk_q (xkE_ok n h10 (by omega))
    have p2 := p_52 b ⟨xk n, 0, 1, [], [], [], []⟩ hg.sm he.sm he.fit
    have hpg := rPutB_g hg ⟨xk n, 0, 1, [], [], [], []⟩
    have hpm := put_more n h10 (by omega) hl
    have dl := he.key
    dsimp only at dl
    have sr : 1 + (decZ n).length ≤ strRoom := by unfold xk at dl; rw [List.length_cons] at dl; unfold strRoom; omega
    have w : IntKind.i64.wrap ((n : Int) + 1) = (n : Int) + 1 := IntWalk.i64_in _ (by omega)
    unfold xk at p2 hpg hpm
    generalize rPutB b ⟨120 :: decZ n, 0, 1, [], [], [], []⟩ = P at *
    obtain ⟨b1, ok⟩ := P
    dsimp only at *
    rcases hc with rfl | ⟨rfl, hz⟩
    · simp (maxSteps := 1000000) [evL, rh_push, rh_len, rh_get, rh_get0, rh_set, rh_set0, rh_take, rh_takeN, rh_fzC, rh_fzC0, rh_ap, -List.getD_eq_getElem?_getD, -List.map_map, f53l0, g2, g3, g6, hl', hl, p1, p2, sr, w]
      exact ⟨j - 1, by omega, b1, _, n + 1, hpg, .inl rfl, rfl, rfl, rfl, rfl, by omega, by omega, by omega⟩
    · obtain ⟨now, ents⟩ := b
      dsimp only at hz
      subst hz
      simp (maxSteps := 1000000) [evL, rh_push, rh_len, rh_get, rh_get0, rh_set, rh_set0, rh_take, rh_takeN, rh_fzC, rh_fzC0, rh_ap, -List.getD_eq_getElem?_getD, -List.map_map, f53l0, g2, g3, g6, p1, p2, sr, w, baD_fold0]
      exact ⟨j - 1, by omega, b1, _, n + 1, hpg, .inl rfl, rfl, rfl, rfl, rfl, by omega, by omega, by omega⟩
  · have hl' : ¬ (b.ents.length : Int) < 12 := by omega
    rcases hc with rfl | ⟨rfl, hz⟩
    · simp (maxSteps := 1000000) [evL, rh_push, rh_len, rh_get, rh_get0, rh_set, rh_set0, rh_take, rh_takeN, rh_fzC, rh_fzC0, rh_ap, -List.getD_eq_getElem?_getD, -List.map_map, f53l0, g2, g3, g6, hl', hl]
      exact ⟨rfl, b, _, hg, .inl rfl, rfl, rfl, rfl⟩
    · rw [hz] at hl
      simp at hl
theorem e_53 (H : Hp) (r : Nat) (bs : List Int) (p : Int) (h : hget H r = some (rd bs p)) (hb : okBytes bs) (hp : 0 ≤ p) (hp2 : p ≤ 10000000) :
    ∃ (b : Ba) (q : Int), ev R 53 [.ptr r 0 0 0] H = some (.d (baD b), hset H r (rd bs q)) ∧ BaG b ∧ p ≤ q ∧ q ≤ p + 600 := by
  have hr := hget_lt h
  have hH := rh_nil H r bs h
  have o1 := fun l => rh_one (H := H) (l := l) (r := r) (bs := bs) (q := p) [0, 0, 10, 1000000] hr hb hp (by omega) (by simp) (by simp)
  have om := oneV_mem bs p [0, 0, 10, 1000000] hb hp (by omega) (by simp)
  generalize oneV bs p [0, 0, 10, 1000000] = now at *
  simp only [ints, List.map_cons, List.map_nil] at o1
  have hnow : 0 ≤ now ∧ now ≤ 1000000 := by
    simp only [List.mem_cons, List.not_mem_nil, or_false] at om
    omega
  have p14 := fun l => rh_pick (H := H) (l := l) (r := r) (bs := bs) (q := p + 1) 14 hr hb (by omega) (by omega)
  obtain ⟨k0, k1⟩ := pickV_in bs (p + 1) 14 hb (by omega) (by omega)
  have k1 := k1 (by omega)
  generalize pickV bs (p + 1) 14 = k at *
  obtain ⟨k, rfl⟩ := Int.eq_ofNat_of_zero_le k0
  obtain ⟨o, e', X', he, rfl, b, c, q, hg, hc, rfl, g0, g2, g3, q1, q2⟩ := (l_53 H r bs (.row 0 2 [.agg [.d (.int .i64 0), .nils 7]]) (p + 1 + 1) hr hb (by omega) (by omega) k
    [(0, .ptr r 0 0 0), (2, .ptr (hlen H) 0 0 0), (3, .ptr (hlen H + 1) 0 0 0), (4, .d (.int .i64 k))] (rh H r bs (p + 1 + 1) [.row 0 2 [.agg [.d (.int .i64 0), .nils 7]], .row 0 2 [.agg [.d (.int .i64 now), .nils 7]]])
    ⟨⟨now, []⟩, _, p + 1 + 1, ⟨by simp, by simp, by dsimp only; omega⟩, .inr ⟨rfl, rfl⟩, rfl, rfl, rfl, rfl, rfl, by omega, by omega, by omega⟩).out
  have p30 := fun l => rh_pick (H := H) (l := l) (r := r) (bs := bs) (q := q) 30 hr hb (by omega) (by omega)
  by_cases f : pickV bs q 30 = 0
  · obtain ⟨o2, e2, X2, he2, rfl, b2, c2, hg2, hc2, rfl, m2, m3⟩ := (l_53x H r bs (.row 0 2 [.agg [.d (.int .i64 0), .nils 7]]) (q + 1) 12
      [(2, .ptr (hlen H) 0 0 0), (3, .ptr (hlen H + 1) 0 0 0), (6, .d (.int .i64 10))] (rh H r bs (q + 1) [.row 0 2 [.agg [.d (.int .i64 0), .nils 7]], .row 0 2 [c]])
      ⟨b, c, 10, hg, hc, rfl, rfl, rfl, rfl, by omega, by omega, by omega⟩).out
    refine ⟨b2, q + 1, ?_, hg2, by omega, by omega⟩
    conv => lhs; rw [hH]
    refine ev_fn (fn := f53) rfl rfl ?_
    rcases hc2 with rfl | ⟨rfl, hz⟩
    · simp (maxSteps := 1000000) [evL, rh_push, rh_len, rh_get, rh_get0, rh_set, rh_set0, rh_take, rh_takeN, rh_fzC, rh_fzC0, rh_ap, -List.getD_eq_getElem?_getD, -List.map_map, f53, o1, p14, he, g0, g2, g3, p30, f, he2, m2, m3]
    · obtain ⟨now2, ents⟩ := b2
      dsimp only at hz
      subst hz
      simp (maxSteps := 1000000) [evL, rh_push, rh_len, rh_get, rh_get0, rh_set, rh_set0, rh_take, rh_takeN, rh_fzC, rh_fzC0, rh_ap, -List.getD_eq_getElem?_getD, -List.map_map, f53, o1, p14, he, g0, g2, g3, p30, f, he2, m2, m3, baD_fold0]
  · refine ⟨b, q + 1, ?_, hg, by omega, by omega⟩
    conv => lhs; rw [hH]
    refine ev_fn (fn := f53) rfl rfl ?_
    rcases hc with rfl | ⟨rfl, hz⟩
    · simp (maxSteps := 1000000) [evL, rh_push, rh_len, rh_get, rh_get0, rh_set, rh_set0, rh_take, rh_takeN, rh_fzC, rh_fzC0, rh_ap, -List.getD_eq_getElem?_getD, -List.map_map, f53, o1, p14, he, g0, g2, g3, p30, f]
    · obtain ⟨now2, ents⟩ := b
      dsimp only at hz
      subst hz
      simp (maxSteps := 1000000) [evL, rh_push, rh_len, rh_get, rh_get0, rh_set, rh_set0, rh_take, rh_takeN, rh_fzC, rh_fzC0, rh_ap, -List.getD_eq_getElem?_getD, -List.map_map, f53, o1, p14, he, g0, g2, g3, p30, f, baD_fold0]
end Go.Proofs.YtjdmiodinhlchaaGreat.Code
/- Any bases, drawn; what BaseKeys and BaseTick draw. -/
namespace Go.Proofs.YtjdmiodinhlchaaGreat.Code
open Go Go.Ev Go.Proofs
set_option maxRecDepth 100000
set_option maxHeartbeats 4000000
set_option linter.unusedSimpArgs false
set_option linter.unusedVariables false
structure BaL (b : Ba) : Prop where
  len : b.ents.length ≤ 13
  each : ∀ e ∈ b.ents, EnQ e
  now : -1 ≤ b.now ∧ b.now ≤ 2000000
theorem BaL.sm {b : Ba} (h : BaL b) : BaSm b := ⟨by have := h.len; omega, fun e he => (h.each e he).sm⟩
theorem BaL.fit {b : Ba} (h : BaL b) : BaFit b := ⟨by have := h.now; exact ⟨by omega, by omega⟩, by have := h.len; omega, fun e he => (h.each e he).fit⟩
theorem BaG.l {b : Ba} (h : BaG b) : BaL b := ⟨by have := h.len; omega, fun e he => enOk_q (h.each e he), by have := h.now; omega⟩
theorem baD_fold1 (n : Int) (e : En) : D.agg [.int .i64 n, .vals 7 [enD e]] = baD ⟨n, [e]⟩ := rfl
theorem enD_kind (e : En) (z : Int) : D.agg [.str e.key, .int .i64 e.till, .int .i64 z, .str e.text, .vals 1 (e.list.map D.str), scs e.scores, prs e.fields] = enD ⟨e.key, e.till, z, e.text, e.list, e.scores, e.fields⟩ := rfl
def Any28 (H : Hp) (r : Nat) (bs : List Int) (p : Int) : Prop :=
  ∃ (b : Ba) (q : Int), ev R 28 [.ptr r 0 0 0] H = some (.d (baD b), hset H r (rd bs q)) ∧ BaL b ∧ p ≤ q ∧ q ≤ p + 700
theorem e_28 (H : Hp) (r : Nat) (bs : List Int) (p : Int) (h : hget H r = some (rd bs p)) (hb : okBytes bs) (hp : 0 ≤ p) (hp2 : p ≤ 10000000) : Any28 H r bs p := by
  have hr := hget_lt h
  have hH := rh_nil H r bs h
  have bl : ∀ l, ∃ (b : Ba) (q : Int), ev R 53 [.ptr r 0 0 0] (rh H r bs p l) = some (.d (baD b), hset (rh H r bs p l) r (rd bs q)) ∧ BaG b ∧ p ≤ q ∧ q ≤ p + 600 := fun l => e_53 _ r bs p (rh_rd H l r bs p hr) hb hp hp2
  obtain ⟨⟨now, es⟩, q, e0, hg, q1, q2⟩ := bl [.row 0 2 [.agg [.d (.int .i64 0), .nils 7]]]
  rw [rh_move H _ r bs p hr] at e0
  clear bl
  have p16 := fun l => rh_pick (H := H) (l := l) (r := r) (bs := bs) (q := q) 16 hr hb (by omega) (by omega)
  have hL := hg.l
  by_cases hes : es = []
  · subst hes
    have p0 : ∀ X, ev R 36 [.d (baD ⟨now, []⟩)] X = some (.agg [.d (.int .i64 now), .nils 7], X) := fun X => e_36 ⟨now, []⟩ hg.sm.len hg.sm.each X
    by_cases c0 : pickV bs q 16 = 0
    · have o1 := fun l => rh_one (H := H) (l := l) (r := r) (bs := bs) (q := q + 1) [-1, 1000001, 50] hr hb (by omega) (by omega) (by simp) (by simp)
      have om := oneV_mem bs (q + 1) [-1, 1000001, 50] hb (by omega) (by omega) (by simp)
      generalize oneV bs (q + 1) [-1, 1000001, 50] = z at *
      simp only [ints, List.map_cons, List.map_nil] at o1
      refine ⟨⟨z, []⟩, q + 1 + 1, ?_, ⟨by simp, by simp, by simp only [List.mem_cons, List.not_mem_nil, or_false] at om; dsimp only; omega⟩, by omega, by omega⟩
      conv => lhs; rw [hH]
      refine ev_fn (fn := f28) rfl rfl ?_
      simp (maxSteps := 1000000) [evL, rh_push, rh_len, rh_get, rh_get0, rh_set, rh_set0, rh_take, rh_takeN, rh_fzC, rh_fzC0, rh_ap, -List.getD_eq_getElem?_getD, -List.map_map, f28, e0, p0, p16, c0, o1, baD_fold0]
    by_cases c1 : pickV bs q 16 = 1
    · refine ⟨⟨now, []⟩, q + 1, ?_, hL, by omega, by omega⟩
      conv => lhs; rw [hH]
      refine ev_fn (fn := f28) rfl rfl ?_
      simp (maxSteps := 1000000) [evL, rh_push, rh_len, rh_get, rh_get0, rh_set, rh_set0, rh_take, rh_takeN, rh_fzC, rh_fzC0, rh_ap, -List.getD_eq_getElem?_getD, -List.map_map, f28, e0, p0, p16, c1, baD_fold0]
    by_cases c2 : pickV bs q 16 = 2
    · have o1 := fun l => rh_of (H := H) (l := l) (r := r) (bs := bs) (q := q + 1) [[], [122, 122], [97]] hr hb (by omega) (by omega) (by simp)
      have om := ofV_all bs (q + 1) [[], [122, 122], [97]] 40 (by simp)
      generalize ofV bs (q + 1) [[], [122, 122], [97]] = z at *
      simp only [txts, List.map_cons, List.map_nil] at o1
      have eq : EnQ ⟨z, 0, 1, [], [], [], []⟩ := ⟨by dsimp only; omega, by simp, by simp, by simp, by simp, by simp, by simp, by simp, by simp, by simp⟩
      refine ⟨⟨now, [⟨z, 0, 1, [], [], [], []⟩]⟩, q + 1 + 1, ?_, ⟨by simp, by simpa using eq, hL.now⟩, by omega, by omega⟩
      conv => lhs; rw [hH]
      refine ev_fn (fn := f28) rfl rfl ?_
      have rm : (120 : Nat) ≤ room := by unfold room; omega
      simp (maxSteps := 1000000) [evL, rh_push, rh_len, rh_get, rh_get0, rh_set, rh_set0, rh_take, rh_takeN, rh_fzC, rh_fzC0, rh_ap, -List.getD_eq_getElem?_getD, -List.map_map, f28, e0, p0, p16, c2, o1, baD_fold1, rm]
    · refine ⟨⟨now, []⟩, q + 1, ?_, hL, by omega, by omega⟩
      conv => lhs; rw [hH]
      refine ev_fn (fn := f28) rfl rfl ?_
      simp (maxSteps := 1000000) [evL, rh_push, rh_len, rh_get, rh_get0, rh_set, rh_set0, rh_take, rh_takeN, rh_fzC, rh_fzC0, rh_ap, -List.getD_eq_getElem?_getD, -List.map_map, f28, e0, p0, p16, eq_false c0, eq_false c1, eq_false c2, baD_fold0]
  · have p0 : ∀ X, ev R 36 [.d (baD ⟨now, es⟩)] X = some (.agg [.d (.int .i64 now), .slc (hlen X) 0 0 es.length], ap X [.row 0 7 ((es.map enD).map V.d)]) := fun X => by
      rw [e_36 ⟨now, es⟩ hg.sm.len hg.sm.each X]
      cases es with
      | nil => exact absurd rfl hes
      | cons z r => rfl
    have hl := hg.len
    dsimp only at hl
    have l0 : 0 < es.length := List.length_pos_iff.2 hes
    have l1 : (0 : Int) < (es.length : Int) := by omega
    have ft : List.take es.length ((es.map enD).map V.d) = (es.map enD).map V.d := List.take_of_length_le (by simp)
    by_cases c0 : pickV bs q 16 = 0
    · have o1 := fun l => rh_one (H := H) (l := l) (r := r) (bs := bs) (q := q + 1) [-1, 1000001, 50] hr hb (by omega) (by omega) (by simp) (by simp)
      have om := oneV_mem bs (q + 1) [-1, 1000001, 50] hb (by omega) (by omega) (by simp)
      generalize oneV bs (q + 1) [-1, 1000001, 50] = z at *
      simp only [ints, List.map_cons, List.map_nil] at o1
      refine ⟨⟨z, es⟩, q + 1 + 1, ?_, ⟨hL.len, hL.each, by simp only [List.mem_cons, List.not_mem_nil, or_false] at om; dsimp only; omega⟩, by omega, by omega⟩
      conv => lhs; rw [hH]
      refine ev_fn (fn := f28) rfl rfl ?_
      simp (maxSteps := 1000000) [evL, rh_push, rh_len, rh_get, rh_get0, rh_set, rh_set0, rh_take, rh_takeN, rh_fzC, rh_fzC0, rh_ap, -List.getD_eq_getElem?_getD, -List.map_map, f28, e0, p0, p16, c0, o1, ft]
    by_cases c1 : pickV bs q 16 = 1
    · have o1 := fun l => rh_pick (H := H) (l := l) (r := r) (bs := bs) (q := q + 1) es.length hr hb (by omega) (by omega)
      have o2 := fun l => rh_pick (H := H) (l := l) (r := r) (bs := bs) (q := q + 1 + 1) 7 hr hb (by omega) (by omega)
      obtain ⟨k0, k1⟩ := pickV_in bs (q + 1) es.length hb (by omega) (by omega)
      obtain ⟨k2, k3⟩ := pickV_in bs (q + 1 + 1) 7 hb (by omega) (by omega)
      have k1 := k1 (by omega)
      have k3 := k3 (by omega)
      generalize pickV bs (q + 1) es.length = i at *
      generalize pickV bs (q + 1 + 1) 7 = kd at *
      obtain ⟨i, rfl⟩ := Int.eq_ofNat_of_zero_le k0
      have hi : i < es.length := by omega
      have hm : es[i] ∈ es := List.getElem_mem hi
      have hq := hL.each _ hm
      obtain ⟨E, g⟩ : ∃ E, es[i] = E := ⟨_, rfl⟩
      rw [g] at hm hq
      have sf := set_fold enD es i ⟨E.key, E.till, kd, E.text, E.list, E.scores, E.fields⟩
      have sl : (es.set i ⟨E.key, E.till, kd, E.text, E.list, E.scores, E.fields⟩).length = es.length := List.length_set
      have ee : EnQ ⟨E.key, E.till, kd, E.text, E.list, E.scores, E.fields⟩ := ⟨hq.key, hq.text, hq.list, hq.lists, hq.scores, hq.scoress, hq.fields, hq.fieldss, hq.till, by dsimp only; omega⟩
      have em : ∀ e ∈ es.set i ⟨E.key, E.till, kd, E.text, E.list, E.scores, E.fields⟩, EnQ e := fun e he => by
        rcases List.mem_or_eq_of_mem_set he with h1 | h1
        · exact hL.each e h1
        · rw [h1]; exact ee
      generalize es.set i ⟨E.key, E.till, kd, E.text, E.list, E.scores, E.fields⟩ = ES at *
      have ft2 : List.take es.length ((ES.map enD).map V.d) = (ES.map enD).map V.d := List.take_of_length_le (by simp [sl])
      refine ⟨⟨now, ES⟩, q + 1 + 1 + 1, ?_, ⟨by dsimp only; omega, em, hL.now⟩, by omega, by omega⟩
      conv => lhs; rw [hH]
      refine ev_fn (fn := f28) rfl rfl ?_
      simp (maxSteps := 1000000) [evL, rh_push, rh_len, rh_get, rh_get0, rh_set, rh_set0, rh_take, rh_takeN, rh_fzC, rh_fzC0, rh_ap, -List.getD_eq_getElem?_getD, -List.map_map, f28, e0, p0, p16, c1, o1, o2, l0, l1, hi, k1, g, sf, sl, ft2, enD_kind]
    by_cases c2 : pickV bs q 16 = 2
    · have o1 := fun l => rh_of (H := H) (l := l) (r := r) (bs := bs) (q := q + 1) [[], [122, 122], [97]] hr hb (by omega) (by omega) (by simp)
      have om := ofV_all bs (q + 1) [[], [122, 122], [97]] 40 (by simp)
      generalize ofV bs (q + 1) [[], [122, 122], [97]] = z at *
      simp only [txts, List.map_cons, List.map_nil] at o1
      have eq : EnQ ⟨z, 0, 1, [], [], [], []⟩ := ⟨by dsimp only; omega, by simp, by simp, by simp, by simp, by simp, by simp, by simp, by simp, by simp⟩
      obtain ⟨ES, hES⟩ : ∃ ES, ES = es ++ [(⟨z, 0, 1, [], [], [], []⟩ : En)] := ⟨_, rfl⟩
      have sf : List.map V.d (List.map enD es) ++ [V.d (enD ⟨z, 0, 1, [], [], [], []⟩)] = List.map V.d (List.map enD ES) := by rw [hES]; simp
      have sl : ES.length = es.length + 1 := by rw [hES]; simp
      have em : ∀ e ∈ ES, EnQ e := fun e he => by
        rw [hES] at he
        simp only [List.mem_append, List.mem_singleton] at he
        rcases he with h1 | h1
        · exact hL.each e h1
        · rw [h1]; exact eq
      refine ⟨⟨now, ES⟩, q + 1 + 1, ?_, ⟨by dsimp only; omega, em, hL.now⟩, by omega, by omega⟩
      conv => lhs; rw [hH]
      refine ev_fn (fn := f28) rfl rfl ?_
      have rm : (es.length + 1) * 120 ≤ room := by unfold room; omega
      have ft2 : List.take (es.length + 1) ((ES.map enD).map V.d) = (ES.map enD).map V.d := List.take_of_length_le (by simp [sl])
      simp (maxSteps := 1000000) [evL, rh_push, rh_len, rh_get, rh_get0, rh_set, rh_set0, rh_take, rh_takeN, rh_fzC, rh_fzC0, rh_ap, -List.getD_eq_getElem?_getD, -List.map_map, f28, e0, p0, p16, c2, o1, rm, sf, sl, ft2]
    · refine ⟨⟨now, es⟩, q + 1, ?_, hL, by omega, by omega⟩
      conv => lhs; rw [hH]
      refine ev_fn (fn := f28) rfl rfl ?_
      simp (maxSteps := 1000000) [evL, rh_push, rh_len, rh_get, rh_get0, rh_set, rh_set0, rh_take, rh_takeN, rh_fzC, rh_fzC0, rh_ap, -List.getD_eq_getElem?_getD, -List.map_map, f28, e0, p0, p16, eq_false c0, eq_false c1, eq_false c2, ft]
end Go.Proofs.YtjdmiodinhlchaaGreat.Code
/- The law of BaseTick: the walk. -/
namespace Go.Proofs.YtjdmiodinhlchaaGreat.Code
open Go Go.Ev Go.Proofs
set_option maxRecDepth 100000
set_option maxHeartbeats 4000000
set_option linter.unusedSimpArgs false
set_option linter.unusedVariables false
theorem e_13 (H : Hp) (bs : List Int) (h : ∀ i, 0 ≤ bs.getD i 0 ∧ bs.getD i 0 ≤ 255) :
    ∃ (b : Ba) (n : Int), ev R 13 [.d (bytesD bs)] H = some (.tup [.d (baD b), .d (.int .i64 n)], H) ∧ BaL b ∧ -1 ≤ n ∧ n ≤ 1000000 := by
  have ho := opened_ok bs h
  have o1 := fun H => e_27 H bs
  obtain ⟨b, q, e1, hL, q1, q2⟩ := e_28 (ap H [.row 0 2 [.agg [.d (.int .i64 0), .nils 7]], rd (opened bs) 0]) (hlen H + 1) (opened bs) 0 (by rw [ap_get]; rfl) ho (by omega) (by omega)
  rw [ap_set] at e1
  have e2 := e_33 (ap H [.row 0 2 [.agg [.d (.int .i64 0), .nils 7]], rd (opened bs) q]) (hlen H + 1) (opened bs) q [0, 1, 5, 100, -1, 1000000] (by rw [ap_get]; rfl) ho (by omega) (by omega) (by simp) (by simp)
  rw [ap_set] at e2
  have hm := oneV_mem (opened bs) q [0, 1, 5, 100, -1, 1000000] ho (by omega) (by omega) (by simp)
  generalize oneV (opened bs) q [0, 1, 5, 100, -1, 1000000] = n at *
  simp only [ints, List.map_cons, List.map_nil, hset] at e1 e2
  refine ⟨b, n, ?_, hL, ?_⟩
  · refine ev_fn (fn := f13) rfl rfl ?_
    simp (maxSteps := 1000000) [evL, -List.getD_eq_getElem?_getD, -List.map_map, f13, o1, e1, e2]
  · simp only [List.mem_cons, List.not_mem_nil, or_false] at hm
    omega
theorem vTick_each {b : Ba} (h : BaSm b) (n : Int) : BaSm (vTick b n) := by
  unfold vTick
  split
  · split
    · exact ⟨Nat.le_trans (List.length_filter_le _ _) h.len, fun e he => h.each e (List.mem_filter.1 he).1⟩
    · exact h
  · exact ⟨by simp, by simp⟩
theorem same_of {b : Ba} (h : BaSm b) : pureCall (ev R) 15 [.d (baD b), .d (baD b)] = some (.d (.bool true)) :=
  p_15_same b h.len fun e he => ⟨(h.each e he).list, (h.each e he).scores, (h.each e he).fields⟩
theorem e_4 (H : Hp) (bs ms : List Int) (h : ∀ i, 0 ≤ bs.getD i 0 ∧ bs.getD i 0 ≤ 255) : ev R 4 [.d (bytesD bs), .d (bytesD ms)] H = some (.d (.bool true), H) := by
  by_cases hbig : 1048576 < bs.length
  · refine ev_fn (fn := f4) rfl rfl ?_
    have hbig' : (1048576 : Int) < (bs.length : Int) := by omega
    simp (maxSteps := 1000000) [evL, -List.getD_eq_getElem?_getD, -List.map_map, f4, hbig']
  have hbig' : ¬ (1048576 : Int) < (bs.length : Int) := by omega
  by_cases hmig : 1048576 < ms.length
  · refine ev_fn (fn := f4) rfl rfl ?_
    have hmig' : (1048576 : Int) < (ms.length : Int) := by omega
    simp (maxSteps := 1000000) [evL, -List.getD_eq_getElem?_getD, -List.map_map, f4, hbig', hmig']
  have hmig' : ¬ (1048576 : Int) < (ms.length : Int) := by omega
  obtain ⟨b, n, ed, hL, n1, n2⟩ := e_13 H bs h
  refine ev_fn (fn := f4) rfl rfl ?_
  have hnow := hL.now
  have p1 := p_14 b n hL.sm hL.fit (by omega) (by omega)
  have p2 := p_16 b n hL.sm hL.fit (by omega) (by omega)
  have p3 := same_of (vTick_each hL.sm n)
  have p4 := p_11 b hL.fit
  have w : IntKind.i64.wrap (1000000 - b.now) = 1000000 - b.now := IntWalk.i64_in _ (by omega)
  cases hk : baseOk b with
  | false =>
    rw [hk] at p4
    generalize vTick b n = T at *
    simp (maxSteps := 1000000) [evL, -List.getD_eq_getElem?_getD, -List.map_map, f4, hbig', hmig', ed, p1, p2, p3, p4]
  | true =>
    rw [hk] at p4
    by_cases a : n < 0
    · generalize vTick b n = T at *
      simp (maxSteps := 1000000) [evL, -List.getD_eq_getElem?_getD, -List.map_map, f4, hbig', hmig', ed, p1, p2, p3, p4, eq_true a]
    by_cases c : 1000000 - b.now < n
    · generalize vTick b n = T at *
      simp (maxSteps := 1000000) [evL, -List.getD_eq_getElem?_getD, -List.map_map, f4, hbig', hmig', ed, p1, p2, p3, p4, eq_false a, w, eq_true c]
    have hO := (baseOk_iff b).1 hk
    have hv : vTick b n = rTick b n := by unfold vTick; rw [if_pos hk, if_pos ⟨by omega, by omega⟩]
    rw [hv] at p1 p2 p3
    have hT := rTick_o hO (n := n) (by omega) (by omega)
    have p5 := p_18 (rTick b n) hT.g.fit
    rw [(baseOk_iff _).2 hT] at p5
    obtain ⟨m, hm⟩ : ∃ m, m = Int.tmod (ms.length : Int) (n + 1) := ⟨_, rfl⟩
    have m0 : 0 ≤ m := by rw [hm]; exact Int.tmod_nonneg _ (by omega)
    have m1 : m < n + 1 := by rw [hm]; exact Int.tmod_lt_of_pos _ (by omega)
    have hTm := rTick_o hO (n := m) (by omega) (by omega)
    have hvm : vTick b m = rTick b m := by unfold vTick; rw [if_pos hk, if_pos ⟨by omega, by omega⟩]
    have p6 := p_14 b m hL.sm hL.fit (by omega) (by omega)
    rw [hvm] at p6
    have hnm : (rTick b m).now = b.now + m := rfl
    have p7 := p_14 (rTick b m) (n - m) hTm.g.sm hTm.g.fit (by rw [hnm]; omega) (by omega)
    have hvn : vTick (rTick b m) (n - m) = rTick b n := by
      unfold vTick
      rw [if_pos ((baseOk_iff _).2 hTm), if_pos ⟨by omega, by rw [hnm]; omega⟩, rTick_tick b (by omega)]
      congr 1; omega
    rw [hvn] at p7
    have w2 : IntKind.i64.wrap (n + 1) = n + 1 := IntWalk.i64_in _ (by omega)
    have w3 : IntKind.i64.wrap (n - m) = n - m := IntWalk.i64_in _ (by omega)
    have w4 : IntKind.i64.wrap (b.now + n) = b.now + n := IntWalk.i64_in _ (by omega)
    have nz : ¬ n + 1 = 0 := by omega
    have tn : (rTick b n).now = b.now + n := rfl
    have te : (rTick b n).ents = b.ents.filter (stays (b.now + n)) := rfl
    have hll := hL.len
    have lp := (loop_keep (F := evCode (ev R) R.glob (hlen H) evLoop f4l0) (lv := [1, 5, 6, 7, 8, 9]) b.ents.length
      (fun i e X => X = ap H [.row 0 2 [.d (baD b)], .row 0 2 [.d (baD (rTick b n))]] ∧ e.get 1 = .d (bytesD ms) ∧ e.get 5 = .ptr (hlen H) 0 0 0 ∧ e.get 6 = .d (.int .i64 n) ∧ e.get 7 = .ptr (hlen H + 1) 0 0 0 ∧ e.get 8 = .d (.int .i64 ((b.ents.take i).filter (stays (b.now + n))).length) ∧ e.get 9 = .d (.int .i64 i))
      (fun o e X => o = .exit 0 ∧ X = ap H [.row 0 2 [.d (baD b)], .row 0 2 [.d (baD (rTick b n))]] ∧ e.get 1 = .d (bytesD ms) ∧ e.get 5 = .ptr (hlen H) 0 0 0 ∧ e.get 6 = .d (.int .i64 n) ∧ e.get 7 = .ptr (hlen H + 1) 0 0 0 ∧ e.get 8 = .d (.int .i64 (rTick b n).ents.length))
      (by
        rintro e X ⟨rfl, g1, g5, g6, g7, g8, g9⟩
        rw [List.take_length, ← te] at g8
        generalize rTick b n = T at *
        simp (maxSteps := 1000000) [evL, -List.getD_eq_getElem?_getD, -List.map_map, f4l0, g1, g5, g6, g7, g8, g9])
      (by
        rintro i e X hi ⟨rfl, g1, g5, g6, g7, g8, g9⟩
        have ci : (i : Int) < (b.ents.length : Int) := by omega
        have c0 : (0 : Int) ≤ (i : Int) := by omega
        have g := ents_get b.ents i hi
        have hq := hL.each _ (getD_in hi : b.ents.getD i default ∈ b.ents)
        have w1 : IntKind.i64.wrap ((i : Int) + 1) = ((i + 1 : Nat) : Int) := by rw [IntWalk.i64_in _ (by omega)]; rfl
        have hfl := take_fil (stays (b.now + n)) b.ents i default hi
        have hle := fil_len (stays (b.now + n)) b.ents i hi
        have hpre : (rTick b n).ents = (b.ents.take (i + 1)).filter (stays (b.now + n)) ++ (b.ents.drop (i + 1)).filter (stays (b.now + n)) := by
          rw [te, ← List.filter_append, List.take_append_drop]
        have hs : stays (b.now + n) (b.ents.getD i default) = (decide ((b.ents.getD i default).till = 0) || decide (b.now + n < (b.ents.getD i default).till)) := rfl
        have ps := p_17_same (b.ents.getD i default) hq.sm.list hq.sm.scores hq.sm.fields
        obtain ⟨k, hkk⟩ : ∃ k, ((b.ents.take i).filter (stays (b.now + n))).length = k := ⟨_, rfl⟩
        rw [hkk] at g8 hle
        cases hst : stays (b.now + n) (b.ents.getD i default) with
        | false =>
          rw [hst] at hfl hs
          simp only [Bool.false_eq_true, if_false, List.append_nil] at hfl
          have hl2 : ((b.ents.take (i + 1)).filter (stays (b.now + n))).length = k := by rw [hfl, hkk]
          have hs := hs.symm
          rw [Bool.or_eq_false_iff, decide_eq_false_iff_not, decide_eq_false_iff_not] at hs
          generalize b.ents.getD i default = E at *
          generalize hR : rTick b n = T at *
          simp (maxSteps := 1000000) [evL, -List.getD_eq_getElem?_getD, -List.map_map, f4l0, g1, g5, g6, g7, g8, g9, ci, c0, hi, g, w1, tn, hl2, eq_false hs.1, eq_false hs.2]
        | true =>
          rw [hst] at hfl hs
          simp only [if_true] at hfl
          have hl2 : ((b.ents.take (i + 1)).filter (stays (b.now + n))).length = k + 1 := by rw [hfl, List.length_append, hkk]; rfl
          have hat : k < (rTick b n).ents.length := by rw [hpre, List.length_append, hl2]; omega
          have hg : (rTick b n).ents.getD k default = b.ents.getD i default := by
            rw [hpre, hfl, List.append_assoc, List.getD_eq_getElem?_getD, List.getElem?_append_right (by omega), hkk, Nat.sub_self]
            rfl
          have gt := ents_get (rTick b n).ents k hat
          rw [hg] at gt
          have cn : ¬ ((rTick b n).ents.length : Int) ≤ (k : Int) := by omega
          have cn' : (k : Int) < ((rTick b n).ents.length : Int) := by omega
          have cn0 : (0 : Int) ≤ (k : Int) := by omega
          have wk : IntKind.i64.wrap ((k : Int) + 1) = (k : Int) + 1 := IntWalk.i64_in _ (by omega)
          have hs := hs.symm
          clear hpre te hfl
          generalize b.ents.getD i default = E at *
          generalize hR : rTick b n = T at *
          by_cases kz : E.till = 0
          · simp (maxSteps := 1000000) [evL, -List.getD_eq_getElem?_getD, -List.map_map, f4l0, g1, g5, g6, g7, g8, g9, ci, c0, hi, g, w1, tn, hl2, hat, gt, cn, cn', cn0, wk, ps, eq_true kz]
          · have hlt : b.now + n < E.till := by simpa [kz] using hs
            simp (maxSteps := 1000000) [evL, -List.getD_eq_getElem?_getD, -List.map_map, f4l0, g1, g5, g6, g7, g8, g9, ci, c0, hi, g, w1, tn, hl2, hat, gt, cn, cn', cn0, wk, ps, eq_false kz, eq_true hlt])
      b.ents.length 0 [(1, .d (bytesD ms)), (5, .ptr (hlen H) 0 0 0), (6, .d (.int .i64 n)), (7, .ptr (hlen H + 1) 0 0 0), (8, .d (.int .i64 0)), (9, .d (.int .i64 0))] (ap H [.row 0 2 [.d (baD b)], .row 0 2 [.d (baD (rTick b n))]]) (by omega) ⟨rfl, rfl, rfl, rfl, rfl, rfl, rfl⟩).out
    obtain ⟨o, e', X', he, rfl, rfl, g1, g5, g6, g7, g8⟩ := lp
    have hm' := hm.symm
    clear hv te hvm hvn hnm hTm
    generalize rTick b m = M at *
    generalize hR : rTick b n = T at *
    simp (maxSteps := 1000000) [evL, -List.getD_eq_getElem?_getD, -List.map_map, f4, hbig', hmig', ed, p1, p2, p3, p4, eq_false a, w, eq_false c, he, g1, g5, g6, g7, g8, w2, w3, w4, nz, hm', p5, p6, p7, eq_true tn]
end Go.Proofs.YtjdmiodinhlchaaGreat.Code
