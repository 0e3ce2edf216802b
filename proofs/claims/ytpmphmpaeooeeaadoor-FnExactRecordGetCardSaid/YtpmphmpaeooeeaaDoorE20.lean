/- One operation of compact code does what the model's operation does. -/
import Derived.Test.YtpmphmpaeooeeaaDoorE19
namespace Go.Ev
open Go
set_option linter.unusedSimpArgs false
set_option linter.unusedVariables false

section
variable {P : Program} {cl : Callf} {G : Glob} {w : World} {pl : Pl} {Bd : Nat → Prop} {H : Hp} {env : Env} {a : Act}

theorem src_ok {v : V} {r : Nat × List V × Bool} (h : src H v = some r) : v.ok = true := by
  unfold src at h
  split at h <;> first | rfl | simp at h

theorem allD_ok {cs : List AOpd} {xs : List D} (h : allD (cs.map (opd G env)) = some xs) : ∀ c ∈ cs, (opd G env c).ok = true := by
  intro c hc
  have := allD_some h
  have hm : opd G env c ∈ cs.map (opd G env) := List.mem_map.2 ⟨c, hc, rfl⟩
  rw [this] at hm
  obtain ⟨d, _, hd⟩ := List.mem_map.1 hm
  rw [← hd]; rfl

theorem evOp_sound (hcl : CallSound P G cl) {n0 : Nat} (hn0 : ∀ m, Bd m → m ≤ n0) (hG : GR G w (owned pl H)) (hH : HR w pl Bd H) (hE : RE w (owned pl H) pl (hlen H) env a) {o : Oper} {x : AOp} (hc : chkOp P o.op x = true)
    {v : V} {H' : Hp} (h : evOp cl G n0 env H x = some (v, H')) : OpSim P o a w pl Bd H v H' := by
  generalize ho : o.op = op at hc
  unfold chkOp at hc
  split at hc
  · -- move
    simp only [evOp] at h
    split at h
    · rename_i hk
      simp only [Option.some.injEq, Prod.mk.injEq] at h; obtain ⟨rfl, rfl⟩ := h
      exact sim_mv hG hH hE (.inl ho) hc hk
    · simp at h
  · -- assign
    simp only [evOp] at h
    split at h
    · rename_i hk
      simp only [Option.some.injEq, Prod.mk.injEq] at h; obtain ⟨rfl, rfl⟩ := h
      exact sim_mv hG hH hE (.inr ho) hc hk
    · simp at h
  · -- pick
    simp only [Bool.and_eq_true] at hc
    simp only [evOp] at h
    split at h
    · rename_i t ht
      split at h
      · rename_i hk
        simp only [Option.some.injEq, Prod.mk.injEq] at h; obtain ⟨rfl, rfl⟩ := h
        exact sim_pick hG hH hE ho hc.1.1 hc.1.2 hc.2 ht hk
      · simp at h
    · simp at h
  · -- alloc
    simp only [evOp] at h
    split at h
    · rename_i hk
      simp only [Option.some.injEq, Prod.mk.injEq] at h; obtain ⟨rfl, rfl⟩ := h
      exact sim_alloc hH ho hc hk
    · simp at h
  · -- box
    simp only [evOp] at h
    split at h
    · rename_i hk
      simp only [Option.some.injEq, Prod.mk.injEq] at h; obtain ⟨rfl, rfl⟩ := h
      exact sim_box hG hH hE ho hc hk
    · simp at h
  · -- build
    rw [Bool.and_eq_true] at hc
    simp only [evOp] at h
    split at h
    · rename_i cs hcs
      simp only [Option.some.injEq, Prod.mk.injEq] at h; obtain ⟨rfl, rfl⟩ := h
      exact sim_build hG hH hE ho hc.1 hc.2 hcs
    · simp at h
  · -- buildSlice
    simp only [Bool.and_eq_true, decide_eq_true_eq] at hc
    obtain ⟨⟨⟨⟨h1, h2⟩, h3⟩, h4⟩, h5⟩ := hc
    have h3 := Nat.eq_of_beq_eq_true h3
    simp only [evOp] at h
    split at h
    · rename_i hall
      have hall' : ∀ x ∈ _, (opd G env x).sto = true ∧ (opd G env x).cells.length = _ := fun x hx => by
        have := List.all_eq_true.1 hall (opd G env x) (List.mem_map.2 ⟨x, hx, rfl⟩)
        rw [Bool.and_eq_true] at this
        exact ⟨this.2, Nat.eq_of_beq_eq_true this.1⟩
      split at h
      · simp only [Option.some.injEq, Prod.mk.injEq, List.length_map] at h; obtain ⟨rfl, rfl⟩ := h
        exact sim_lit hG hH hE ho h1 h2 h3 h4 h5 hall' (.inl ⟨rfl, rfl⟩)
      · split at h
        · rename_i xs hxs
          simp only [Option.some.injEq, Prod.mk.injEq] at h; obtain ⟨rfl, rfl⟩ := h
          exact sim_lit hG hH hE ho h1 h2 h3 h4 h5 hall' (.inr ⟨xs, hxs, rfl, rfl⟩)
        · simp at h
    · simp at h
  · -- load
    simp only [Bool.and_eq_true] at hc
    simp only [evOp] at h
    split at h
    · rename_i r g i j hp
      split at h
      · rename_i cs hcs
        split at h
        · rename_i v' hv
          simp only [Option.some.injEq, Prod.mk.injEq] at h; obtain ⟨rfl, rfl⟩ := h
          exact sim_load hG hH hE ho hc.1.1 hc.1.2 hc.2 hp hcs hv
        · simp at h
      · simp at h
    · rename_i cs hp
      split at h
      · rename_i hl
        split at h
        · rename_i v' hv
          simp only [Option.some.injEq, Prod.mk.injEq] at h; obtain ⟨rfl, rfl⟩ := h
          exact sim_loadR hG hH hE ho hc.1.1 hc.1.2 hc.2 hp hl hv
        · simp at h
      · simp at h
    · simp at h
  · -- store
    simp only [Bool.and_eq_true] at hc
    simp only [evOp] at h
    split at h
    · rename_i r g i j hp
      split at h
      · rename_i hk
        split at h
        · rename_i H1 hs
          simp only [Option.some.injEq, Prod.mk.injEq] at h; obtain ⟨rfl, rfl⟩ := h
          exact sim_store hn0 hG hH hE ho hc.1.1 hc.1.2 hc.2 hp hk.1 hk.2.1 hk.2.2 hs
        · simp at h
      · simp at h
    · simp at h
  · -- nilCheck
    simp only [evOp] at h
    split at h
    · rename_i hp
      simp only [Option.some.injEq, Prod.mk.injEq] at h; obtain ⟨rfl, rfl⟩ := h
      exact sim_nilck hG hH hE ho hc hp (.inl ⟨_, _, _, _, rfl⟩)
    · rename_i hp
      simp only [Option.some.injEq, Prod.mk.injEq] at h; obtain ⟨rfl, rfl⟩ := h
      exact sim_nilck hG hH hE ho hc hp (.inr (.inl ⟨_, rfl⟩))
    · rename_i hp
      simp only [Option.some.injEq, Prod.mk.injEq] at h; obtain ⟨rfl, rfl⟩ := h
      exact sim_nilck hG hH hE ho hc hp (.inr (.inr (.inl ⟨_, _, rfl⟩)))
    · rename_i hp
      simp only [Option.some.injEq, Prod.mk.injEq] at h; obtain ⟨rfl, rfl⟩ := h
      exact sim_nilck hG hH hE ho hc hp (.inr (.inr (.inr ⟨_, _, rfl⟩)))
    · simp at h
  · -- binOp
    simp only [Bool.and_eq_true, decide_eq_true_eq] at hc
    obtain ⟨⟨⟨rfl, h2⟩, h3⟩, h4⟩ := hc
    simp only [evOp] at h
    split at h
    · rename_i p q hp hq
      split at h
      · rename_i z hz
        simp only [Option.some.injEq, Prod.mk.injEq] at h; obtain ⟨rfl, rfl⟩ := h
        exact sim_bin hG hH hE ho h2 h3 h4 hp hq hz
      · simp at h
    · simp at h
  · -- unOp
    simp only [Bool.and_eq_true, decide_eq_true_eq] at hc
    obtain ⟨rfl, h2⟩ := hc
    simp only [evOp] at h
    split at h
    · rename_i p hp
      split at h
      · rename_i z hz
        simp only [Option.some.injEq, Prod.mk.injEq] at h; obtain ⟨rfl, rfl⟩ := h
        exact sim_un hG hH hE ho h2 hp hz
      · simp at h
    · simp at h
  · -- cvInt
    simp only [Bool.and_eq_true] at hc
    simp only [evOp] at h
    split at h
    · rename_i hp
      simp only [Option.some.injEq, Prod.mk.injEq] at h; obtain ⟨rfl, rfl⟩ := h
      exact sim_cvInt hG hH hE ho hc.1.1 hp hc.1.2 hc.2
    · simp at h
  · -- cvId
    simp only [Bool.and_eq_true] at hc
    simp only [evOp] at h
    split at h
    · rename_i hp
      simp only [Option.some.injEq, Prod.mk.injEq] at h; obtain ⟨rfl, rfl⟩ := h
      exact sim_cvId hG hH hE ho hc.1.1 hp hc.1.2 hc.2
    · simp at h
  · -- cvStr
    rw [Bool.and_eq_true, Bool.and_eq_true] at hc
    simp only [evOp] at h
    split at h
    · rename_i e vs dat hsrc
      split at h
      · rename_i s hs
        split at h
        · rename_i he
          subst he
          simp only [Option.some.injEq, Prod.mk.injEq] at h; obtain ⟨rfl, rfl⟩ := h
          exact sim_cvStr hG hH hE ho hc.1.1 (src_ok hsrc) hc.1.2 hc.2 hsrc hs
        · simp at h
      · simp at h
    · simp at h
  · -- makeFunc
    simp only [Bool.and_eq_true, decide_eq_true_eq] at hc
    obtain ⟨⟨rfl, h2⟩, h3⟩ := hc
    have h2 := Nat.eq_of_beq_eq_true h2
    simp only [evOp] at h
    split at h
    · rename_i xs hxs
      simp only [Option.some.injEq, Prod.mk.injEq] at h; obtain ⟨rfl, rfl⟩ := h
      exact sim_mkfn hG hH hE ho h2 h3 (allD_ok hxs) (.inl ⟨xs, hxs, rfl⟩)
    · split at h
      · rename_i hall
        simp only [Option.some.injEq, Prod.mk.injEq] at h; obtain ⟨rfl, rfl⟩ := h
        exact sim_mkfn hG hH hE ho h2 h3 (fun c hc => List.all_eq_true.1 hall _ (List.mem_map.2 ⟨c, hc, rfl⟩)) (.inr rfl)
      · simp at h
  · -- makeMap
    simp only [evOp, Option.some.injEq, Prod.mk.injEq] at h; obtain ⟨rfl, rfl⟩ := h
    exact sim_mkmap hH hc ho
  · -- insert
    rw [Bool.and_eq_true, Bool.and_eq_true, Bool.and_eq_true] at hc
    simp only [evOp] at h
    split at h
    · rename_i r kd hm hk
      split at h
      · rename_i ks vs hrow
        split at h
        · rename_i kds hkd
          split at h
          · rename_i hl
            split at h
            · rename_i hok
              simp only [Option.some.injEq, Prod.mk.injEq] at h; obtain ⟨rfl, rfl⟩ := h
              exact sim_insert hn0 hG hH hE (.inl ho) hc.1.1.1 hc.1.1.2 hc.1.2 hc.2 hm hk hok.1 hrow hkd hl hok.2
            · simp at h
          · simp at h
        · simp at h
      · simp at h
    · simp at h
  · -- mapUpdate
    rw [Bool.and_eq_true, Bool.and_eq_true, Bool.and_eq_true] at hc
    simp only [evOp] at h
    split at h
    · rename_i r kd hm hk
      split at h
      · rename_i ks vs hrow
        split at h
        · rename_i kds hkd
          split at h
          · rename_i hl
            split at h
            · rename_i hok
              simp only [Option.some.injEq, Prod.mk.injEq] at h; obtain ⟨rfl, rfl⟩ := h
              exact sim_insert hn0 hG hH hE (.inr ho) hc.1.1.1 hc.1.1.2 hc.1.2 hc.2 hm hk hok.1 hrow hkd hl hok.2
            · simp at h
          · simp at h
        · simp at h
      · simp at h
    · simp at h
  · -- lookup
    rw [Bool.and_eq_true, Bool.and_eq_true, Bool.and_eq_true, decide_eq_true_eq] at hc
    obtain ⟨⟨⟨rfl, h2⟩, h3⟩, h4⟩ := hc
    simp only [evOp] at h
    split at h
    · rename_i ks vs kd hm hk
      split at h
      · rename_i hl
        simp only [Option.some.injEq, Prod.mk.injEq] at h; obtain ⟨rfl, rfl⟩ := h
        exact sim_lookup hG hH hE ho h2 h3 h4 hm hk hl (.inl ⟨_, rfl, rfl⟩)
      · rename_i hl
        simp only [Option.some.injEq, Prod.mk.injEq] at h; obtain ⟨rfl, rfl⟩ := h
        exact sim_lookup hG hH hE ho h2 h3 h4 hm hk hl (.inr ⟨rfl, rfl⟩)
      · simp at h
    · simp at h
  · -- makeSlice
    rw [Bool.and_eq_true, Bool.and_eq_true] at hc
    simp only [evOp] at h
    split at h
    · rename_i n c hl hcp
      split at h
      · rename_i hk
        obtain ⟨h0, rfl, h2, h3, h4⟩ := hk
        simp only [Option.some.injEq, Prod.mk.injEq] at h; obtain ⟨rfl, rfl⟩ := h
        exact sim_mkslice hG hH hE ho hc.1.1 hc.1.2 hc.2 hl hcp h0 h2 h3 h4
      · simp at h
    · simp at h
  · -- slice
    rw [Bool.and_eq_true, Bool.and_eq_true, Bool.and_eq_true] at hc
    obtain ⟨⟨⟨h1, h2⟩, h3⟩, h4⟩ := hc
    simp only [evOp] at h
    split at h
    · rename_i s hp
      split at h
      · rename_i hi hhi
        split at h
        · rename_i l hl
          simp only [Option.some.injEq, Prod.mk.injEq] at h; obtain ⟨rfl, rfl⟩ := h
          exact sim_sliceStr hG hH hE ho h1 h2 h3 h4 hp hhi hl
        · simp at h
      · simp at h
    · rename_i e e' xs hp
      split at h
      · rename_i hi hhi
        split at h
        · rename_i l hl
          split at h
          · rename_i he
            subst he
            simp only [Option.some.injEq, Prod.mk.injEq] at h; obtain ⟨rfl, rfl⟩ := h
            exact sim_sliceVals hG hH hE ho h1 h2 h3 h4 hp hhi hl
          · simp at h
        · simp at h
      · simp at h
    · rename_i e r g i n hp
      split at h
      · rename_i e' xs hrow
        split at h
        · rename_i hi hhi
          split at h
          · rename_i l hl
            split at h
            · rename_i he
              subst he
              simp only [Option.some.injEq, Prod.mk.injEq] at h; obtain ⟨rfl, rfl⟩ := h
              exact sim_sliceSlc hG hH hE ho h1 h2 h3 h4 hp hrow hhi hl
            · simp at h
          · simp at h
        · simp at h
      · simp at h
    · simp at h
  · -- fieldAddr
    rw [Bool.and_eq_true] at hc
    simp only [evOp] at h
    split at h
    · rename_i hp
      simp only [Option.some.injEq, Prod.mk.injEq] at h; obtain ⟨rfl, rfl⟩ := h
      exact sim_faddr hG hH hE ho hc.1 hc.2 hp
    · rename_i hp
      split at h
      · simp only [Option.some.injEq, Prod.mk.injEq] at h; obtain ⟨rfl, rfl⟩ := h
        exact sim_faddrR hG hH hE ho hc.1 hc.2 hp
      · simp at h
    · simp at h
  · -- field
    rw [Bool.and_eq_true] at hc
    simp only [evOp] at h
    split at h
    · rename_i hl
      split at h
      · rename_i hv
        simp only [Option.some.injEq, Prod.mk.injEq] at h; obtain ⟨rfl, rfl⟩ := h
        exact sim_field hG hH hE ho hc.1 hc.2 hl.1 hl.2 hv
      · simp at h
    · simp at h
  · -- indexAddr
    rw [Bool.and_eq_true, Bool.and_eq_true] at hc
    simp only [evOp] at h
    split at h
    · rename_i k hk
      split at h
      · rename_i e' xs hp
        split at h
        · rename_i hb
          obtain ⟨h0, h1, rfl⟩ := hb
          simp only [Option.some.injEq, Prod.mk.injEq] at h; obtain ⟨rfl, rfl⟩ := h
          exact sim_iaddrD hG hH hE ho hc.1.1 hc.1.2 hc.2 hk hp h0 h1
        · simp at h
      · rename_i r g j n hp
        split at h
        · rename_i hb
          split at h
          · rename_i e' xs hrow
            split at h
            · rename_i he
              subst he
              simp only [Option.some.injEq, Prod.mk.injEq] at h; obtain ⟨rfl, rfl⟩ := h
              exact sim_iaddrS hG hH hE ho hc.1.1 hc.1.2 hc.2 hk hp hb.1 hb.2 hrow
            · simp at h
          · simp at h
        · simp at h
      · simp at h
    · simp at h
  · -- index
    simp only [Bool.and_eq_true] at hc
    simp only [evOp] at h
    split at h
    · rename_i s k hp hk
      split at h
      · rename_i hb
        simp only [Option.some.injEq, Prod.mk.injEq] at h; obtain ⟨rfl, rfl⟩ := h
        exact sim_idx hG hH hE ho hc.1.1 hc.1.2 hc.2 hp hk hb.1 hb.2
      · simp at h
    · simp at h
  · -- extract
    simp only [Bool.and_eq_true] at hc
    have hi := Nat.eq_of_beq_eq_true hc.2
    subst hi
    simp only [evOp] at h
    split at h
    · rename_i vs hp
      split at h
      · rename_i hv
        simp only [Option.some.injEq, Prod.mk.injEq] at h; obtain ⟨rfl, rfl⟩ := h
        exact sim_extract hG hH hE ho hc.1 hp hv
      · simp at h
    · simp at h
  · -- makeInterface
    simp only [Bool.and_eq_true] at hc
    have hi := Nat.eq_of_beq_eq_true hc.1.1
    subst hi
    simp only [evOp] at h
    split at h
    · rename_i hp
      simp only [Option.some.injEq, Prod.mk.injEq] at h; obtain ⟨rfl, rfl⟩ := h
      exact sim_mkiface hG hH hE ho hc.1.2 hp hc.2
    · simp at h
  · -- call
    rw [Bool.and_eq_true] at hc
    simp only [evOp] at h
    split at h
    · rename_i k caps hk
      split at h
      · rename_i vs H1 hh
        split at h
        · rename_i v' H2 hr
          split at h
          · simp only [Option.some.injEq, Prod.mk.injEq] at h; obtain ⟨rfl, rfl⟩ := h
            exact sim_call hcl hG hH hE ho hc.1 hc.2 hk hh hr
          · split at h
            · rename_i hz
              simp only [Option.some.injEq, Prod.mk.injEq] at h; obtain ⟨rfl, rfl⟩ := h
              exact sim_callF hcl hG hH hE ho hc.1 hc.2 hk hh hr hz
            · simp at h
        · simp at h
      · simp at h
    · simp at h
  · -- pcall
    rename_i F A ts f' as'
    rw [Bool.and_eq_true] at hc
    simp only [evOp] at h
    split at h
    · rename_i k caps hk
      split at h
      · rename_i ws hw
        split at h
        · rename_i v' hr
          split at h
          · rename_i hfl
            simp only [Option.some.injEq, Prod.mk.injEq] at h; obtain ⟨rfl, rfl⟩ := h
            have hk' : ∃ dc, opd G env f' = .d (.fn (.func k) dc) ∧ caps = dc.map .d := by
              split at hk
              · rename_i he
                simp only [Option.some.injEq, Prod.mk.injEq] at hk
                obtain ⟨rfl, rfl⟩ := hk
                exact ⟨_, he, rfl⟩
              · simp at hk
            obtain ⟨dc, hdc, rfl⟩ := hk'
            exact sim_pcall hcl hG hH hE ho hc.1 hc.2 hdc hw hr hfl
          · simp at h
        · simp at h
      · simp at h
    · simp at h
  · -- len
    split at hc
    · rename_i y t has hts
      rw [Bool.and_eq_true] at hc
      simp only [evOp] at h
      split at h
      · rename_i s hp
        simp only [Option.some.injEq, Prod.mk.injEq] at h; obtain ⟨rfl, rfl⟩ := h
        exact sim_len hG hH hE ho has hts hc.1 (.inl ⟨hc.2, s, hp, rfl⟩)
      · rename_i e xs hp
        simp only [Option.some.injEq, Prod.mk.injEq] at h; obtain ⟨rfl, rfl⟩ := h
        exact sim_len hG hH hE ho has hts hc.1 (.inr ⟨hc.2, .inl ⟨e, xs, hp, rfl⟩⟩)
      · rename_i e hp
        simp only [Option.some.injEq, Prod.mk.injEq] at h; obtain ⟨rfl, rfl⟩ := h
        exact sim_len (n := 0) hG hH hE ho has hts hc.1 (.inr ⟨hc.2, .inr (.inl ⟨e, hp, rfl⟩)⟩)
      · rename_i r g i n hp
        simp only [Option.some.injEq, Prod.mk.injEq] at h; obtain ⟨rfl, rfl⟩ := h
        exact sim_len hG hH hE ho has hts hc.1 (.inr ⟨hc.2, .inr (.inr ⟨r, g, i, hp⟩)⟩)
      · simp at h
    · simp at hc
  · -- append
    split at hc
    · rename_i S X t t' has hts
      rw [Bool.and_eq_true, Bool.and_eq_true, Bool.and_eq_true, Bool.and_eq_true, Bool.and_eq_true, decide_eq_true_eq, decide_eq_true_eq] at hc
      obtain ⟨⟨⟨⟨⟨h1, h2⟩, h3⟩, h4⟩, h5⟩, h6⟩ := hc
      have h1 := Nat.eq_of_beq_eq_true h1
      subst h1
      simp only [evOp] at h
      split at h
      · rename_i ey ys dat hsrc
        split at h
        · rename_i e1 hse
          split at h
          · split at h
            · rename_i he
              subst he
              simp only [Option.some.injEq, Prod.mk.injEq] at h; obtain ⟨rfl, rfl⟩ := h
              exact sim_appendNil hG hH hE ho has hts h2 h3 h4 h6 hse (src_ok hsrc) hsrc (.inl ⟨rfl, rfl, rfl⟩)
            · simp at h
          · split at h
            · rename_i he
              obtain ⟨he1, rfl, he3⟩ := he
              simp only [Option.some.injEq, Prod.mk.injEq] at h; obtain ⟨rfl, rfl⟩ := h
              exact sim_appendNil hG hH hE ho has hts h2 h3 h4 h6 hse (src_ok hsrc) hsrc (.inr ⟨he1, by simp, he3, rfl, rfl⟩)
            · simp at h
        · rename_i r g i n hse
          split at h
          · rename_i e' xs hrow
            split at h
            · rename_i hk
              obtain ⟨rfl, rfl, k3, k4⟩ := hk
              split at h
              · rename_i hn
                split at h
                · rename_i hroom
                  simp only [Option.some.injEq, Prod.mk.injEq] at h; obtain ⟨rfl, rfl⟩ := h
                  exact sim_append hn0 hG hH hE ho has hts h2 h3 h4 h6 hse hrow (src_ok hsrc) hsrc k4 (.inl ⟨by omega, by omega, hroom, rfl, by rw [hn, List.take_length]⟩)
                · simp at h
              · split at h
                · rename_i hle
                  simp only [Option.some.injEq, Prod.mk.injEq] at h; obtain ⟨rfl, rfl⟩ := h
                  exact sim_append hn0 hG hH hE ho has hts h2 h3 h4 h6 hse hrow (src_ok hsrc) hsrc k4 (.inr ⟨hle, rfl, rfl⟩)
                · split at h
                  · rename_i hroom
                    simp only [Option.some.injEq, Prod.mk.injEq] at h; obtain ⟨rfl, rfl⟩ := h
                    exact sim_append hn0 hG hH hE ho has hts h2 h3 h4 h6 hse hrow (src_ok hsrc) hsrc k4 (.inl ⟨k3, by omega, hroom, rfl, rfl⟩)
                  · simp at h
            · simp at h
          · simp at h
        · simp at h
      · simp at h
    · simp at hc
  · -- max
    simp only [evOp] at h
    rename_i xs
    match xs, hc, h with
    | [], _, h => simp at h
    | [_], _, h => simp at h
    | y :: y2 :: ys, hc, h =>
      simp only [List.map_cons] at h
      split at h
      · rename_i z hz
        simp only [Option.some.injEq, Prod.mk.injEq] at h; obtain ⟨rfl, rfl⟩ := h
        exact sim_mnmx (mx := true) hG hH hE ho hc hz ((mnmxL_ok _ _ _ hz).1 (by simp))
      · simp at h
  · -- min
    simp only [evOp] at h
    rename_i xs
    match xs, hc, h with
    | [], _, h => simp at h
    | [_], _, h => simp at h
    | y :: y2 :: ys, hc, h =>
      simp only [List.map_cons] at h
      split at h
      · rename_i z hz
        simp only [Option.some.injEq, Prod.mk.injEq] at h; obtain ⟨rfl, rfl⟩ := h
        exact sim_mnmx (mx := false) hG hH hE ho hc hz ((mnmxL_ok _ _ _ hz).1 (by simp))
      · simp at h
  · simp at hc
end
end Go.Ev
