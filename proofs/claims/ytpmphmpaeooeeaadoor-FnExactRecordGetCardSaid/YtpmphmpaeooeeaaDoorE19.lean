/- Calls: what is handed over, what comes back, and what a call does to the world. -/
import Derived.Test.YtpmphmpaeooeeaaDoorE18
namespace Go.Ev
open Go
set_option linter.unusedSimpArgs false
set_option linter.unusedVariables false

def RVs (w : World) (O : Own) (pl : Pl) (n : Nat) (vs : List V) (us : Array Value) : Prop :=
  us.size = vs.length ∧ ∀ i, i < vs.length → RV w O pl n (vs.getD i .any) (us.getD i undef)

def FnOk (P : Program) (k : Nat) : Prop := ∃ fn : Func, P.funcs[k]? = some fn ∧ (fn.name == "runtime.NumGoroutine") = false ∧ fn.body.isSome = true

/-- What an abstract call says is what the program does. -/
def CallSound (P : Program) (G : Glob) (cl : Callf) : Prop :=
  ∀ k args H v H', cl k args H = some (v, H') → FnOk P k ∧
    ∀ (w : World) (pl : Pl) (Bd : Nat → Prop) (us : Array Value), HR w pl Bd H → GR G w (owned pl H) → RVs w (owned pl H) pl (hlen H) args us →
      Calls P k us w fun e w' => ∃ u pl', e = .returned u ∧ Fin w pl Bd H v H' u w' pl'

section
variable {P : Program} {cl : Callf} {G : Glob} {w : World} {pl : Pl} {Bd : Nat → Prop} {H : Hp} {env : Env} {a : Act}

theorem FnOk.enters {k : Nat} (h : FnOk P k) (args : Array Value) (w : World) : (callFunc k args).run P w = .ok (.enter k args) w := by
  obtain ⟨fn, hf, hname, hb⟩ := h
  have h1 : fn.name ≠ "runtime.NumGoroutine" := by simpa using hname
  obtain ⟨c, hc⟩ := Option.isSome_iff_exists.1 hb
  simp [callFunc, hf, h1, hc]

theorem RVs.append {O : Own} {n : Nat} {vs ws : List V} {us xs : Array Value} (h : RVs w O pl n vs us) (k : RVs w O pl n ws xs) : RVs w O pl n (vs ++ ws) (us ++ xs) := by
  obtain ⟨h1, h2⟩ := h
  obtain ⟨k1, k2⟩ := k
  refine ⟨by simp [h1, k1], fun i hi => ?_⟩
  by_cases hl : i < vs.length
  · have e1 : (vs ++ ws).getD i .any = vs.getD i .any := by simp [List.getD_eq_getElem?_getD, List.getElem?_append_left hl]
    have e2 : (us ++ xs).getD i undef = us.getD i undef := by
      rw [Array.getD_eq_getD_getElem?, Array.getD_eq_getD_getElem?, Array.getElem?_append_left (by omega)]
    rw [e1, e2]; exact h2 i hl
  · have e1 : (vs ++ ws).getD i .any = ws.getD (i - vs.length) .any := by simp [List.getD_eq_getElem?_getD, List.getElem?_append_right (Nat.le_of_not_lt hl)]
    have e2 : (us ++ xs).getD i undef = xs.getD (i - vs.length) undef := by
      rw [Array.getD_eq_getD_getElem?, Array.getD_eq_getD_getElem?, Array.getElem?_append_right (by omega), h1]
    rw [e1, e2]
    exact k2 _ (by simp at hi; omega)

theorem RVs.mono {w' : World} {O O' : Own} {pl' : Pl} {n n' : Nat} (E : Ext w O w' O') (hp : PlExt n pl pl') (hn : n ≤ n') {vs : List V} {us : Array Value} (h : RVs w O pl n vs us) : RVs w' O' pl' n' vs us :=
  ⟨h.1, fun i hi => (h.2 i hi).mono E hp hn⟩

theorem owned_kill {r b : Nat} (hH : HR w pl Bd H) (hb : blk pl H r = some b) : ¬ owned pl (hset H r .dead) b := by
  rintro ⟨r', hr'⟩
  by_cases hne : r' = r
  · subst hne
    obtain ⟨o, ho⟩ := blk_lt hr'
    have := hget_lt ho
    rw [hlen_hset] at this
    unfold blk at hr'
    rw [hget_hset_self _ this] at hr'
    simp at hr'
  · have hb' : blk pl H r' = some b := by
      unfold blk at hr' ⊢
      rwa [hget_hset_ne _ hne] at hr'
    exact hne (hH.inj r' r b hb' hb)

/-- One argument. -/
def hand1 (H : Hp) (k : Bool) (v : V) : Option (V × Hp) :=
  match k, v with
  | true, .slc r g i n => (match view1 H (.slc r g i n) with | some x => some (.d x, hset H r .dead) | none => none)
  | _, v => if v.ok = true then some (v, H) else none

theorem hand_cons (k : Bool) (x : AOpd) (r : List (Bool × AOpd)) : hand G env H ((k, x) :: r) = (match hand1 H k (opd G env x) with
    | some (v, H) => (match hand G env H r with | some (vs, H) => some (v :: vs, H) | none => none)
    | none => none) := rfl

theorem hand1_ok (hH : HR w pl Bd H) {k : Bool} {v v' : V} {H' : Hp} (h : hand1 H k v = some (v', H')) : v.ok = true ∧ HR w pl Bd H' ∧ Ext w (owned pl H) w (owned pl H') ∧ hlen H' = hlen H ∧
    ∀ u, RV w (owned pl H) pl (hlen H) v u → RV w (owned pl H') pl (hlen H) v' u := by
  unfold hand1 at h
  split at h
  · rename_i r g i n
    split at h
    · rename_i x hx
      simp only [Option.some.injEq, Prod.mk.injEq] at h
      obtain ⟨rfl, rfl⟩ := h
      obtain ⟨h1, h2⟩ := hH.kill r
      refine ⟨rfl, h1, h2, hlen_hset .., fun u hu => .d _ _ (view1_ok hH hx hu h2 fun r' hr' b hb => ?_)⟩
      simp only [refs1, List.mem_singleton] at hr'
      subst hr'
      exact owned_kill hH hb
    · simp at h
  · split at h
    · rename_i hok
      simp only [Option.some.injEq, Prod.mk.injEq] at h
      obtain ⟨rfl, rfl⟩ := h
      exact ⟨hok, hH, Ext.refl _ _, rfl, fun u hu => hu⟩
    · simp at h

theorem hand_ok : ∀ (as : List (Bool × AOpd)) (os : List Operand) (H : Hp) (vs : List V) (H' : Hp), argsOk as os = true → HR w pl Bd H → GR G w (owned pl H) → RE w (owned pl H) pl (hlen H) env a →
    hand G env H as = some (vs, H') → HR w pl Bd H' ∧ Ext w (owned pl H) w (owned pl H') ∧ hlen H' = hlen H ∧ RVs w (owned pl H') pl (hlen H) vs (os.map a.eval).toArray
  | [], [], H, vs, H', _, hH, _, _, h => by
    simp only [hand, Option.some.injEq, Prod.mk.injEq] at h
    obtain ⟨rfl, rfl⟩ := h
    exact ⟨hH, Ext.refl _ _, rfl, rfl, fun i hi => by simp at hi⟩
  | [], _ :: _, _, _, _, hc, _, _, _, _ => by simp [argsOk] at hc
  | (_, _) :: _, [], _, _, _, hc, _, _, _, _ => by simp [argsOk] at hc
  | (k, x) :: as, o :: os, H, vs, H', hc, hH, hG, hE, h => by
    simp only [argsOk, Bool.and_eq_true] at hc
    rw [hand_cons] at h
    split at h
    · rename_i v H1 h1
      obtain ⟨hok, hH1, E1, hl1, hv⟩ := hand1_ok hH h1
      split at h
      · rename_i vs' H2 h2
        simp only [Option.some.injEq, Prod.mk.injEq] at h
        obtain ⟨rfl, rfl⟩ := h
        obtain ⟨hH2, E2, hl2, hv1, hv2⟩ := hand_ok as os H1 vs' H2 hc.2 hH1 (hG.mono E1) (by rw [hl1]; exact hE.mono E1 (PlExt.refl _ _) (Nat.le_refl _)) h2
        refine ⟨hH2, E1.trans E2, by omega, by simpa using hv1, fun i hi => ?_⟩
        cases i with
        | zero =>
          have := (hv _ (opd_ok hc.1 hG hE hok)).mono E2 (PlExt.refl _ _) (Nat.le_refl _)
          simpa using this
        | succ i =>
          have := hv2 i (by simpa using hi)
          rw [hl1] at this
          simpa using this
      · simp at h
    · simp at h

theorem owned_take {n r b : Nat} (hH : HR w pl Bd H) (hr : n ≤ r) (hb : blk pl H r = some b) : ¬ owned pl (htake H n) b := by
  rintro ⟨r', hr'⟩
  obtain ⟨o, ho⟩ := blk_lt hr'
  obtain ⟨hlt, ho'⟩ := hget_htake_some ho
  have hb' : blk pl H r' = some b := by
    unfold blk at hr' ⊢
    rwa [hget_htake hlt] at hr'
  have := hH.inj r' r b hb' hb
  omega

theorem fzC_ok (hH : HR w pl Bd H) {n : Nat} (hn : Bd n) {v v' : V} (h : fzC n H v = some v') {u : Value} (hu : RV w (owned pl H) pl (hlen H) v u) : RV w (owned pl (htake H n)) pl n v' u := by
  have E := (hH.take n hn (Bd' := fun _ => False) (fun _ h => h.elim)).2
  have hO : ∀ r, n ≤ r → ∀ b, blk pl H r = some b → ¬ owned pl (htake H n) b := fun r hr b hb => owned_take hH hr hb
  have key : ∀ {x : D}, fz n deep H v = some x → RV w (owned pl (htake H n)) pl n (.d x) u := fun hx => .d _ _ (fz_ok hH E hO deep v _ u hx hu)
  unfold fzC at h
  split at h
  · simp only [Option.some.injEq] at h; subst h
    exact .d _ _ (hu.dd.mono E)
  · split at h
    · rename_i hlt
      simp only [Option.some.injEq] at h; subst h
      cases hu with
      | slc _ _ _ _ b e c _ hp hk => exact .slc _ _ _ _ b e c hlt hp hk
      | slc0 _ _ _ A cap hi _ => exact .slc0 _ _ _ A cap hi hlt
    · split at h
      · rename_i x hx
        simp only [Option.some.injEq] at h; subst h
        exact key hx
      · simp at h
  · split at h
    · rename_i hlt
      simp only [Option.some.injEq] at h; subst h
      cases hu with
      | ptr _ _ _ _ b e c _ hp => exact .ptr _ _ _ _ b e c hlt hp
    · split at h
      · rename_i x hx
        simp only [Option.some.injEq] at h; subst h
        exact key hx
      · simp at h
  · split at h
    · rename_i x hx
      simp only [Option.some.injEq] at h; subst h
      exact key hx
    · simp at h

theorem fzV_ok (hH : HR w pl Bd H) {n : Nat} (hn : Bd n) {v v' : V} (h : fzV n H v = some v') {u : Value} (hu : RV w (owned pl H) pl (hlen H) v u) : RV w (owned pl (htake H n)) pl n v' u := by
  have E := (hH.take n hn (Bd' := fun _ => False) (fun _ h => h.elim)).2
  unfold fzV at h
  split at h
  · simp only [Option.some.injEq] at h; subst h
    exact .d _ _ (hu.dd.mono E)
  · rename_i cs
    split at h
    · rename_i xs hxs
      simp only [Option.some.injEq] at h; subst h
      obtain ⟨h1, h2⟩ := mapO_some (d := V.any) (d' := V.any) hxs
      cases hu with
      | agg _ us hl ho hr => exact RCs.mkAgg ⟨by omega, fun i hi => fzC_ok hH hn (h2 i (by omega)) (hr i (by omega)), fun i hi => ho i (by omega)⟩
    · simp at h
  · exact fzC_ok hH hn h hu

/-- Which function a value calls. -/
def callee (v : V) : Option (Nat × List V) := match v with | .d (.fn (.func k) caps) => some (k, caps.map V.d) | .fn (.func k) caps => some (k, caps) | _ => none

theorem callee_ok {O : Own} {n : Nat} {v : V} {k : Nat} {caps : List V} (h : callee v = some (k, caps)) {u : Value} (hu : RV w O pl n v u) : v.ok = true ∧ ∃ us, u = .func (.func k) #[] us ∧ RVs w O pl n caps us := by
  unfold callee at h
  split at h
  · simp only [Option.some.injEq, Prod.mk.injEq] at h
    obtain ⟨rfl, rfl⟩ := h
    refine ⟨rfl, ?_⟩
    have := hu.dd
    cases this with
    | fn _ _ us hl hr => exact ⟨us, rfl, by simp [hl], fun i hi => by rw [getD_map_d _ i (by simpa using hi)]; exact .d _ _ (hr i (by simpa using hi))⟩
  · simp only [Option.some.injEq, Prod.mk.injEq] at h
    obtain ⟨rfl, rfl⟩ := h
    refine ⟨rfl, ?_⟩
    cases hu with
    | fn _ _ us hl hr => exact ⟨us, rfl, hl, hr⟩
  · simp at h

theorem callee_known {v : V} {k : Nat} {caps : List V} (h : callee v = some (k, caps)) : v.ok = true := by
  unfold callee at h
  split at h <;> first | rfl | simp at h

theorem run_call {o : Oper} {F : Operand} {A : Array Operand} {ts : Array TypeId} (ho : o.op = .call { callee := .value F, args := A, argTypes := ts }) {k : Nat} {us : Array Value} (hF : a.eval F = .func (.func k) #[] us) (hk : FnOk P k) :
    (execOp a.eval o).run P w = .ok (.enter k (A.map a.eval ++ us)) w := by
  have he := hk.enters (A.map a.eval ++ us) w
  simp only [execOp, ho, resolve, hF, Deferred.ofValue, Sem.run_bind, Sem.run_pure, invoke, Array.empty_append]
  exact he

theorem Fin.from {H1 : Hp} (E : Ext w (owned pl H) w (owned pl H1)) (hl : hlen H1 = hlen H) {v : V} {H' : Hp} {u : Value} {w' : World} {pl' : Pl} (h : Fin w pl Bd H1 v H' u w' pl') : Fin w pl Bd H v H' u w' pl' :=
  ⟨h.hr, h.rv, E.trans h.ext, by rw [← hl]; exact h.ple, by rw [← hl]; exact h.le⟩

theorem sim_call (hcl : CallSound P G cl) (hG : GR G w (owned pl H)) (hH : HR w pl Bd H) (hE : RE w (owned pl H) pl (hlen H) env a) {o : Oper} {F : Operand} {A : Array Operand} {ts : Array TypeId} (ho : o.op = .call { callee := .value F, args := A, argTypes := ts })
    {f : AOpd} {as : List (Bool × AOpd)} (hf : opdOk f F = true) (ha : argsOk as A.toList = true) {k : Nat} {caps : List V} (hc : callee (opd G env f) = some (k, caps)) {vs : List V} {H1 : Hp} (hh : hand G env H as = some (vs, H1))
    {v : V} {H2 : Hp} (hr : cl k (vs ++ caps) H1 = some (v, H2)) : OpSim P o a w pl Bd H v H2 := by
  have hfv := opd_ok hf hG hE (callee_known hc)
  obtain ⟨_, us, hfe, hcaps⟩ := callee_ok hc hfv
  obtain ⟨hH1, E1, hl1, hvs⟩ := hand_ok as A.toList H vs H1 ha hH hG hE hh
  obtain ⟨hok, hcall⟩ := hcl _ _ _ _ _ hr
  intro next Q hn
  unfold Oper.wp
  rw [run_call ho hfe hok, Oper.upon_enter]
  have hargs : (A.toList.map a.eval).toArray = A.map a.eval := by cases A; simp
  rw [hargs] at hvs
  refine (hcall w pl Bd _ hH1 (hG.mono E1) (by rw [hl1]; exact hvs.append (hcaps.mono E1 (PlExt.refl _ _) (Nat.le_refl _)))).mono fun e w' he => ?_
  obtain ⟨u, pl', rfl, hfin⟩ := he
  exact hn u w' pl' (hfin.from E1 hl1)

/-- A call whose result becomes data. -/
theorem sim_callF (hcl : CallSound P G cl) (hG : GR G w (owned pl H)) (hH : HR w pl Bd H) (hE : RE w (owned pl H) pl (hlen H) env a) {o : Oper} {F : Operand} {A : Array Operand} {ts : Array TypeId} (ho : o.op = .call { callee := .value F, args := A, argTypes := ts })
    {f : AOpd} {as : List (Bool × AOpd)} (hf : opdOk f F = true) (ha : argsOk as A.toList = true) {k : Nat} {caps : List V} (hc : callee (opd G env f) = some (k, caps)) {vs : List V} {H1 : Hp} (hh : hand G env H as = some (vs, H1))
    {v v' : V} {H2 : Hp} (hr : cl k (vs ++ caps) H1 = some (v, H2)) (hz : fzV (hlen H1) H2 v = some v') : OpSim P o a w pl Bd H v' (htake H2 (hlen H1)) := by
  have hfv := opd_ok hf hG hE (callee_known hc)
  obtain ⟨_, us, hfe, hcaps⟩ := callee_ok hc hfv
  obtain ⟨hH1, E1, hl1, hvs⟩ := hand_ok as A.toList H vs H1 ha hH hG hE hh
  obtain ⟨hok, hcall⟩ := hcl _ _ _ _ _ hr
  intro next Q hn
  unfold Oper.wp
  rw [run_call ho hfe hok, Oper.upon_enter]
  have hargs : (A.toList.map a.eval).toArray = A.map a.eval := by cases A; simp
  rw [hargs] at hvs
  refine (hcall w pl _ _ hH1.enter (hG.mono E1) (by rw [hl1]; exact hvs.append (hcaps.mono E1 (PlExt.refl _ _) (Nat.le_refl _)))).mono fun e w' he => ?_
  obtain ⟨u, pl', rfl, hfin⟩ := he
  have hle := hfin.le
  obtain ⟨t1, t2⟩ := hfin.hr.take (hlen H1) (Or.inr rfl) (Bd' := Bd) (fun m hm => ⟨Or.inl hm, by have := hH.le m hm; omega⟩)
  refine hn u w' pl' ⟨t1, ?_, E1.trans (hfin.ext.trans t2), by rw [← hl1]; exact hfin.ple, by rw [hlen_htake hle]; omega⟩
  rw [hlen_htake hle]
  exact fzV_ok hfin.hr (Or.inr rfl) hz hfin.rv

/-- No objects at all. -/
theorem HR.none (w : World) (pl : Pl) : HR w pl (fun _ => False) [] := by
  refine ⟨fun r o h => ?_, fun r r' b h => ?_, fun m h => h.elim, fun m h => h.elim⟩
  · simp [hget] at h
  · simp [blk, hget] at h
theorem owned_none (pl : Pl) (b : Nat) : ¬ owned pl [] b := fun ⟨r, h⟩ => by simp [blk, hget] at h

theorem HR.mono_all {w' : World} (hH : HR w pl Bd H) (E : Ext w (fun _ => False) w' (fun _ => False)) : HR w' pl Bd H ∧ Ext w (owned pl H) w' (owned pl H) := by
  have E' : Ext w (owned pl H) w' (owned pl H) := ⟨E.os, E.tape, E.output, E.size, fun b hb hO => ⟨(E.keep b hb (fun h => h)).1, hO⟩⟩
  refine ⟨⟨fun r o ho => ?_, hH.inj, fun m hm r o hlt ho => ?_, hH.le⟩, E'⟩
  · have hor := hH.obj r o ho
    cases hor with
    | dead => exact .dead
    | row g e xs b c arr ty fr hp hh hs hf hx he hr h1 hg =>
      exact .row g e xs b c arr ty fr hp ((E.keep b (Array.getElem?_eq_some_iff.1 hh).1 (fun h => h)).1.trans hh) hs hf hx he (fun i j hi hj => (hr i j hi hj).mono E' (PlExt.refl _ _) (Nat.le_refl _)) h1 hg
    | map ks vs b e c es clock hp hh hk hv hrk hrv =>
      exact .map ks vs b e c es clock hp ((E.keep b (Array.getElem?_eq_some_iff.1 hh).1 (fun h => h)).1.trans hh) hk hv (fun i hi => (hrk i hi).mono E' (PlExt.refl _ _) (Nat.le_refl _)) (fun i hi => (hrv i hi).mono E' (PlExt.refl _ _) (Nat.le_refl _))
  · have hor := hH.bd m hm r o hlt ho
    cases hor with
    | dead => exact .dead
    | row g e xs b c arr ty fr hp hh hs hf hx he hr h1 hg =>
      exact .row g e xs b c arr ty fr hp ((E.keep b (Array.getElem?_eq_some_iff.1 hh).1 (fun h => h)).1.trans hh) hs hf hx he (fun i j hi hj => (hr i j hi hj).mono E' (PlExt.refl _ _) (Nat.le_refl _)) h1 hg
    | map ks vs b e c es clock hp hh hk hv hrk hrv =>
      exact .map ks vs b e c es clock hp ((E.keep b (Array.getElem?_eq_some_iff.1 hh).1 (fun h => h)).1.trans hh) hk hv (fun i hi => (hrk i hi).mono E' (PlExt.refl _ _) (Nat.le_refl _)) (fun i hi => (hrv i hi).mono E' (PlExt.refl _ _) (Nat.le_refl _))

theorem flat_any {x : D} (h : flatD x = true) {w' : World} {O O' : Own} {u : Value} (hu : RD w O x u) : RD w' O' x u := by
  cases hu <;> simp [flatD] at h
  · exact .bool _
  · exact .int _ _
  · rename_i hs; exact .str _ _ hs

theorem flatV_any {v : V} (h : flatV v = true) {w' : World} {O O' : Own} {pl' : Pl} {n n' : Nat} {u : Value} (hu : RV w O pl n v u) : RV w' O' pl' n' v u := by
  unfold flatV at h
  split at h
  · exact .d _ _ (flat_any h hu.dd)
  · rename_i vs
    cases hu with
    | tup _ us hl hr =>
      refine .tup vs us hl fun i hi => ?_
      have hx := List.all_eq_true.1 h (vs.getD i .any) (by rw [List.getD_eq_getElem?_getD]; simp [hi])
      have hri := hr i hi
      generalize vs.getD i .any = y at hx hri
      cases y <;> simp at hx
      exact .d _ _ (flat_any hx hri.dd)
  · simp at h

theorem pureCall_some {k : Nat} {args : List V} {v : V} (h : pureCall cl k args = some v) (H : Hp) : cl k args H = some (v, H) := by
  unfold pureCall at h
  split at h
  · rename_i hx
    simp only [Option.some.injEq] at h
    subst h
    exact hx.choose_spec H
  · simp at h

theorem sim_pcall (hcl : CallSound P G cl) (hG : GR G w (owned pl H)) (hH : HR w pl Bd H) (hE : RE w (owned pl H) pl (hlen H) env a) {o : Oper} {F : Operand} {A : Array Operand} {ts : Array TypeId} (ho : o.op = .call { callee := .value F, args := A, argTypes := ts })
    {f : AOpd} {as : List AOpd} (hf : opdOk f F = true) (ha : opdsOk as A.toList = true) {k : Nat} {dcaps : List D} (hc : opd G env f = .d (.fn (.func k) dcaps)) {ws : List D} (hw : mapO (view H) (as.map (opd G env)) = some ws)
    {v : V} (hr : pureCall cl k (ws.map .d ++ dcaps.map .d) = some v) (hfl : ((as.map (opd G env)).all isData || flatV v) = true) : OpSim P o a w pl Bd H v H := by
  have hfv := opd_ok hf hG hE (by rw [hc]; rfl)
  obtain ⟨_, us, hfe, hcaps⟩ := callee_ok (k := k) (caps := dcaps.map .d) (by rw [hc]; rfl) hfv
  obtain ⟨h1, h2⟩ := mapO_some (d := V.any) (d' := D.nilp) hw
  obtain ⟨hlen, hopd⟩ := opds_ok hG hE as A.toList ha
  have hok := (hcl _ _ _ _ _ (pureCall_some hr [])).1
  intro next Q hn
  unfold Oper.wp
  rw [run_call ho hfe hok, Oper.upon_enter]
  have hview : ∀ i, i < as.length → ((as.map (opd G env)).getD i .any).ok = true ∧ view H ((as.map (opd G env)).getD i .any) = some (ws.getD i .nilp) := by
    intro i hi
    have := h2 i (by simpa using hi)
    refine ⟨?_, this⟩
    revert this
    generalize (as.map (opd G env)).getD i .any = y
    cases y <;> simp [V.ok, view, view1, fz, deep]
  have hws : ws.length = as.length := by simpa using h1
  have hA : A.size = as.length := by simpa using hlen
  have hval : ∀ i, (A.map a.eval).getD i undef = (A.toList.map a.eval).getD i undef := by
    intro i
    simp [List.getD_eq_getElem?_getD]
  have E0 : Ext w (owned pl H) w (fun _ => False) := ⟨rfl, rfl, rfl, Nat.le_refl _, fun b _ _ => ⟨rfl, fun h => h⟩⟩
  rcases Bool.or_eq_true_iff.1 hfl with hd | hflat
  · -- all data: the heap itself
    have hcall := (hcl _ _ _ _ _ (pureCall_some hr H)).2 w pl Bd (A.map a.eval ++ us) hH hG (by
      refine RVs.append ⟨by simp [hws, hA], fun i hi => ?_⟩ hcaps
      have hi' : i < as.length := by simp at hi; omega
      obtain ⟨k1, k2⟩ := hview i hi'
      rw [getD_map_d ws i (by omega), hval i]
      have hrv := hopd i hi' k1
      have hdd := List.all_eq_true.1 hd ((as.map (opd G env)).getD i .any) (by
        rw [List.getD_eq_getElem?_getD, List.getElem?_eq_getElem (by simpa using hi'), Option.getD_some]
        exact List.getElem_mem _)
      generalize (as.map (opd G env)).getD i .any = y at hdd k2 hrv
      cases y <;> simp [isData] at hdd
      simp only [view, view1, Option.some.injEq] at k2
      subst k2
      exact hrv)
    refine hcall.mono fun e w' he => ?_
    obtain ⟨u, pl', rfl, hfin⟩ := he
    exact hn u w' pl' hfin
  · -- looked at: no heap
    have hG0 : GR G w (owned pl []) := (hG.mono E0).mono ⟨rfl, rfl, rfl, Nat.le_refl _, fun b _ _ => ⟨rfl, owned_none pl b⟩⟩
    have E1 : Ext w (owned pl H) w (owned pl []) := ⟨rfl, rfl, rfl, Nat.le_refl _, fun b _ _ => ⟨rfl, owned_none pl b⟩⟩
    have hcall := (hcl _ _ _ _ _ (pureCall_some hr [])).2 w pl _ (A.map a.eval ++ us) (HR.none w pl) hG0 (by
      refine RVs.append ⟨by simp [hws, hA], fun i hi => ?_⟩ ⟨hcaps.1, fun i hi => ?_⟩
      · have hi' : i < as.length := by simp at hi; omega
        obtain ⟨k1, k2⟩ := hview i hi'
        rw [getD_map_d ws i (by omega), hval i]
        exact .d _ _ (view_ok hH k2 (hopd i hi' k1) E1 fun r b _ => owned_none pl b)
      · have hr' := hcaps.2 i hi
        rw [getD_map_d dcaps i (by simpa using hi)] at hr' ⊢
        exact .d _ _ (hr'.dd.mono E1))
    refine hcall.mono fun e w' he => ?_
    obtain ⟨u, pl', rfl, hfin⟩ := he
    obtain ⟨m1, m2⟩ := hH.mono_all (w' := w') ⟨hfin.ext.os, hfin.ext.tape, hfin.ext.output, hfin.ext.size, fun b hb _ => ⟨(hfin.ext.keep b hb (owned_none pl b)).1, fun h => h⟩⟩
    exact hn u w' pl ⟨m1, flatV_any hflat hfin.rv, m2, PlExt.refl _ _, Nat.le_refl _⟩
end
end Go.Ev
