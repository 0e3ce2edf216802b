/- What FnExactRecordGet answers. -/
import Derived.Test.YtpmphmpaeooeeaaDoorVRecordOwn
namespace Go.Proofs.YtpmphmpaeooeeaaDoor.Code
open Go Go.Ev Go.Proofs
set_option maxRecDepth 100000
set_option linter.unusedSimpArgs false
set_option linter.unusedVariables false
theorem recGo_small (s : Txt) : ∀ (m n : Nat) (acc xss : List (List Txt)) (k : Nat), (∀ x ∈ acc, x.length ≤ 8) → recGo s m n acc = some (xss, k) → ∀ x ∈ xss, x.length ≤ 8
  | 0, n, acc, xss, k, ha, h => by
    simp only [recGo, Option.some.injEq, Prod.mk.injEq] at h
    rw [← h.1]; exact ha
  | m + 1, n, acc, xss, k, ha, h => by
    rw [recGo] at h
    split at h
    · simp at h
    · refine recGo_small s m _ _ _ _ (fun x hx => ?_) h
      rcases List.mem_append.1 hx with hx | hx
      · exact ha x hx
      · simp only [List.mem_singleton] at hx
        subst hx
        exact ordX_len _
theorem recX_cases (s : Txt) : recX s = recBad ∨ ((recX s).2.1 ≠ [] ∧ (recX s).2.1.length ≤ 60 ∧ ∀ x ∈ (recX s).2.1, x.length ≤ 8) := by
  unfold recX
  split
  · exact .inl rfl
  · split
    · split
      · unfold recTail
        split
        · rename_i h
          split
          · rename_i xss k hr
            have l := recGo_len s _ _ _ _ _ hr
            have sm := recGo_small s _ _ _ _ _ (by simp) hr
            simp only [List.length_nil, Nat.zero_add] at l
            refine .inr ⟨?_, ?_, sm⟩
            · intro e
              simp only at e
              rw [e] at l
              simp only [List.length_nil] at l
              omega
            · simp only; omega
          · exact .inl rfl
        · exact .inl rfl
      · exact .inl rfl
    · exact .inl rfl
theorem total_bound : ∀ (xss : List (List Txt)), (∀ x ∈ xss, x.length ≤ 8) → total xss ≤ 8 * xss.length
  | [], _ => by simp [total]
  | x :: r, h => by
    have h1 := h x (by simp)
    have h2 := total_bound r (fun y hy => h y (by simp [hy]))
    simp only [total, List.length_cons]
    omega
theorem e21e (H : Hp) (k : Int) : ev R 21 [.d (.vals 1 []), .d (.int .i64 k)] H = some (.d (.int .i64 k), H) := by
  refine ev_fn (fn := f21) rfl rfl ?_
  have he : ∃ e', evLoop (evCode (ev R) R.glob (hlen H) evLoop f21l0) [0, 1, 5] ⟨[(0, .d (.vals 1 [])), (1, .d (.int .i64 k)), (5, .d (.int .i64 0))], H⟩ = some (.exit 0, ⟨e', H⟩) ∧ e'.get 1 = .d (.int .i64 k) := by
    rw [evLoop_eq]
    refine ⟨?_, ?_, ?_⟩
    rotate_left
    · simp [-List.getD_eq_getElem?_getD, -List.map_map, evBody, evCode, evOps, evOper, evOp, opd, Env.get, Env.put, Env.keep, zipEnv, V.ok, V.sto, V.cells, D.cells, V.isAgg, binD, binInt, binStr, shInt, unD, eqOf, asI, leave, resOf, mapO, fzV, tupOf, view, view1, isData, hand, flatV, flatD, allD, mkAgg, mkVal, beq_lit, IntKind.bits, htake_self, htake_push, hget_hpush_self, hset_push, rowOf_self, okIn, lowIn, lowIn1, fzC_d, fzC_row, f21l0]
      try rfl
    · simp [-List.getD_eq_getElem?_getD, -List.map_map, evBody, evCode, evOps, evOper, evOp, opd, Env.get, Env.put, Env.keep, zipEnv, V.ok, V.sto, V.cells, D.cells, V.isAgg, binD, binInt, binStr, shInt, unD, eqOf, asI, leave, resOf, mapO, fzV, tupOf, view, view1, isData, hand, flatV, flatD, allD, mkAgg, mkVal, beq_lit, IntKind.bits, htake_self, htake_push, hget_hpush_self, hset_push, rowOf_self, okIn, lowIn, lowIn1, fzC_d, fzC_row]
  obtain ⟨e', he, h1⟩ := he
  simp [-List.getD_eq_getElem?_getD, -List.map_map, evBody, evCode, evOps, evOper, evOp, opd, Env.get, Env.put, Env.keep, zipEnv, V.ok, V.sto, V.cells, D.cells, V.isAgg, binD, binInt, binStr, shInt, unD, eqOf, asI, leave, resOf, mapO, fzV, tupOf, view, view1, isData, hand, flatV, flatD, allD, mkAgg, mkVal, beq_lit, IntKind.bits, htake_self, htake_push, hget_hpush_self, hset_push, rowOf_self, okIn, lowIn, lowIn1, fzC_d, fzC_row, f21, he, h1]
theorem e5 (s : Txt) : ev R 5 [.d (.str s)] [] = some (.d (.bool true), []) := by
  refine ev_fn (fn := f5) rfl rfl ?_
  by_cases big : s.length > 1048576
  · have b1 : (1048576 : Int) < (s.length : Int) := by omega
    have b2 : 1048576 < s.length := by omega
    have tk : htake [] (hlen []) = [] := rfl
    simp [-List.getD_eq_getElem?_getD, -List.map_map, evBody, evCode, evOps, evOper, evOp, opd, Env.get, Env.put, Env.keep, zipEnv, V.ok, V.sto, V.cells, D.cells, V.isAgg, binD, binInt, binStr, shInt, unD, eqOf, asI, leave, resOf, mapO, fzV, tupOf, view, view1, isData, hand, flatV, flatD, allD, mkAgg, mkVal, beq_lit, IntKind.bits, htake_self, htake_push, hget_hpush_self, hset_push, rowOf_self, okIn, lowIn, lowIn1, fzC_d, fzC_row, f5, big, b1, b2, tk]
  · have b1 : ¬ (1048576 : Int) < (s.length : Int) := by omega
    have b2 : ¬ 1048576 < s.length := by omega
    have p19 := pureCall_eq (cl := ev R) fun H => e19 H s (by omega)
    have q20 := fun H => e20 H s (by omega)
    rcases recX_cases s with hb | ⟨hn, hl, hm⟩
    · have v := fun H => v20_bad H s hb
      simp only [v] at q20
      rw [hb] at p19
      simp only [recBad] at p19
      have t0 : textss [] = [] := rfl
      rw [t0] at p19
      have p11 := pureCall_eq (cl := ev R) fun H => e11_same H [] (by simp) (by simp)
      rw [t0] at p11
      have m21 := fun H => e21e H 1
      have p22 : pureCall (ev R) 22 [.d (.vals 1 []), .d (.int .i64 1)] = some (.d (.int .i64 1)) := pureCall_eq (cl := ev R) fun H => e22 H [] 1 (by simp [total]) (by simp)
      have tk : htake [] (hlen []) = [] := rfl
      simp [-List.getD_eq_getElem?_getD, -List.map_map, evBody, evCode, evOps, evOper, evOp, opd, Env.get, Env.put, Env.keep, zipEnv, V.ok, V.sto, V.cells, D.cells, V.isAgg, binD, binInt, binStr, shInt, unD, eqOf, asI, leave, resOf, mapO, fzV, tupOf, view, view1, isData, hand, flatV, flatD, allD, mkAgg, mkVal, beq_lit, IntKind.bits, htake_self, htake_push, hget_hpush_self, hset_push, rowOf_self, okIn, lowIn, lowIn1, fzC_d, fzC_row, f5, big, b1, b2, p19, q20, p11, m21, p22, tk]
    · have v : ∀ H, v20 H s = (.tup [.d (.int .i64 (recX s).1), .slc (hlen H + (recX s).2.1.length) 0 0 (recX s).2.1.length, .d (.int .i64 (recX s).2.2)], nestH H (recX s).2.1) := fun H => by
        unfold v20
        rw [if_neg hn]
      simp only [v] at q20
      generalize (recX s).1 = now at *
      generalize (recX s).2.2 = num at *
      generalize (recX s).2.1 = xss at *
      have tb := total_bound xss hm
      have get8 : ∀ i, (xss.getD i []).length ≤ 8 := fun i => by
        rw [List.getD_eq_getElem?_getD]
        by_cases hi : i < xss.length
        · rw [List.getElem?_eq_getElem hi]
          exact hm _ (List.getElem_mem hi)
        · rw [List.getElem?_eq_none (by omega)]
          simp
      have p11 := pureCall_eq (cl := ev R) fun H => e11_same H xss (by omega) (fun i => by have := get8 i; omega)
      -- the first reading
      have c1 := q20 []
      have n1 := nestH_nest [] xss
      rw [show hlen ([] : Hp) = 0 from rfl] at c1 n1
      have w1 := n1.fz
      have r1 := n1.2
      have a1 := allD_refs xss 0 hn
      have l1 := refs1_len xss 0
      -- marked
      have m21 : ev R 21 [.slc (0 + xss.length) 0 0 xss.length, .d (.int .i64 1)] (nestH [] xss) = _ := e21 (nestH [] xss) 0 1 xss (by omega) (by omega) n1
      have n2 := n1.mark 1
      have p22 : pureCall (ev R) 22 [.d (.vals 1 (textss (marksS 1 xss))), .d (.int .i64 1)] = _ := pureCall_eq (cl := ev R) fun H => e22 H xss 1 (by omega) (by omega)
      have pos : ¬ ((1 + total xss : Nat) : Int) < 0 := by omega
      have w2 := n2.fz
      have r2 := n2.2
      rw [marksS_len, refs1_marks] at r2
      rw [marksS_len] at w2
      -- read again
      have c3 := q20 (markH (nestH [] xss) 0 1 xss)
      have n3 := nestH_nest (markH (nestH [] xss) 0 1 xss) xss
      have w3 := n3.fz
      have r3 := n3.2
      have a3 := allD_refs xss (hlen (markH (nestH [] xss) 0 1 xss)) hn
      have l3 := refs1_len xss (hlen (markH (nestH [] xss) 0 1 xss))
      have n4 := nestH_below [] (markH (nestH [] xss) 0 1 xss) xss (marksS 1 xss) 0 n2
      have w4 := n4.fz
      have r4 := n4.2
      rw [marksS_len, refs1_marks] at r4
      rw [marksS_len] at w4
      have tk : ∀ X : Hp, htake X (hlen []) = [] := fun X => rfl
      clear n1 n2 n3 n4 q20 v
      generalize nestH (markH (nestH [] xss) 0 1 xss) xss = N3 at *
      generalize hlen (markH (nestH [] xss) 0 1 xss) + xss.length = K3 at *
      generalize refs1 (hlen (markH (nestH [] xss) 0 1 xss)) xss = rr3 at *
      generalize markH (nestH [] xss) 0 1 xss = N2 at *
      generalize nestH [] xss = N1 at *
      generalize 0 + xss.length = K at *
      generalize refs1 0 xss = rr at *
      generalize textss (marksS 1 xss) = TM at *
      generalize textss xss = T at *
      generalize ((1 + total xss : Nat) : Int) = cc at *
      generalize xss.length = m at *
      simp [-List.getD_eq_getElem?_getD, -List.map_map, evBody, evCode, evOps, evOper, evOp, opd, Env.get, Env.put, Env.keep, zipEnv, V.ok, V.sto, V.cells, D.cells, V.isAgg, binD, binInt, binStr, shInt, unD, eqOf, asI, leave, resOf, mapO, fzV, tupOf, view, view1, isData, hand, flatV, flatD, allD, mkAgg, mkVal, beq_lit, IntKind.bits, htake_self, htake_push, hget_hpush_self, hset_push, rowOf_self, okIn, lowIn, lowIn1, fzC_d, fzC_row, f5, big, b1, b2, p19, p11, c1, r1, a1, l1, w1, m21, r2, w2, p22, pos, c3, r3, a3, l3, w3, r4, w4, tk]
theorem gr_of_err {P : Program} {w : World} {name : String} {g t : Nat} {a : Addr} {v : Value} (hn : P.globalNamed name = some g) (h : w.var? P name = some #[.iface t (.pointer (some a))]) (hc : w.cell? a = some v) :
    RD w (fun _ => False) (.rptr [.iface t (.rptr [])]) (.pointer (some ⟨g, 0, none⟩)) ∧ ∃ arr ty fr, w.heap[g]? = some (.cells arr ty fr) ∧ arr.size = 1 := by
  unfold World.var? at h
  rw [hn] at h
  simp only [Option.bind_some] at h
  split at h
  · rename_i cs ty fr hh
    simp only [Option.some.injEq] at h
    subst h
    obtain ⟨hsp, hb⟩ := cell_spot hc
    obtain ⟨b, o, sp⟩ := a
    simp only at hsp hb
    subst hsp
    refine ⟨.rptr _ g 0 (fun j => .iface t (.pointer (some ⟨b, o, none⟩))) (fun h => h) (Array.getElem?_eq_some_iff.1 hh).1 (fun j hj => ?_) (fun j hj => rfl) (fun j hj => ?_), _, _, _, hh, rfl⟩
    · obtain rfl : j = 0 := by simpa using hj
      simp [World.cell?, hh]
    · obtain rfl : j = 0 := by simpa using hj
      exact .iface _ _ _ (.rptr [] b o (fun _ => undef) (fun h => h) hb (fun j hj => by simp at hj) (fun j hj => by simp at hj) (fun j hj => by simp at hj))
  · simp at h
namespace fnExactRecordGet
theorem answers (s : ByteArray) (w : World) (hs : s.size ≤ 140737488351232) (hG : GR globD w (fun _ => False)) : Calls Tryd.prog 5 #[.string s] w fun e w' => e = .returned (.bool true) ∧ RowKit.Below w.heap.size w w' := by
  refine calls_bool prg_ok (xs := [.str s.data.toList]) (e5 _) hG rfl fun j hj => ?_
  match j, hj with
  | 0, _ => exact rd_str w s
end fnExactRecordGet
end Go.Proofs.YtpmphmpaeooeeaaDoor.Code
