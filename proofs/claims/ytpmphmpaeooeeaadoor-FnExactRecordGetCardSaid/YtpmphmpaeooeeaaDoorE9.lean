/- Each operation of compact code does what the model's operation does: conversions, slices, elements, structs, literals. -/
import Derived.Test.YtpmphmpaeooeeaaDoorE8
import Derived.Laws.Slices
import Derived.Laws.BytesArg
namespace Go.Ev
open Go
set_option linter.unusedSimpArgs false
set_option linter.unusedVariables false

theorem toList_ofList (s : List UInt8) : (⟨s.toArray⟩ : ByteArray).toList = s := by rw [ByteArray.toList_eq]

section
variable {P : Program} {cl : Callf} {G : Glob} {w : World} {pl : Pl} {Bd : Nat → Prop} {H : Hp} {env : Env} {a : Act}

theorem sim_nilck (hG : GR G w (owned pl H)) (hH : HR w pl Bd H) (hE : RE w (owned pl H) pl (hlen H) env a) {o : Oper} {X : Operand} (ho : o.op = .nilCheck X) {x : AOpd} (hx : opdOk x X = true) {v : V} (hp : opd G env x = v)
    (hv : (∃ r g i j, v = .ptr r g i j) ∨ (∃ cs, v = .d (.rptr cs)) ∨ (∃ k cs, v = .fn (.func k) cs) ∨ (∃ k cs, v = .d (.fn (.func k) cs))) : OpSim P o a w pl Bd H v H := by
  have hu := opd_ok hx hG hE (by rw [hp]; rcases hv with ⟨_, _, _, _, rfl⟩ | ⟨_, rfl⟩ | ⟨_, _, rfl⟩ | ⟨_, _, rfl⟩ <;> rfl)
  rw [hp] at hu
  refine .pure hH (u := a.eval X) ?_ hu
  simp only [execOp, ho]
  generalize a.eval X = u at hu
  rcases hv with ⟨_, _, _, _, rfl⟩ | ⟨_, rfl⟩ | ⟨_, _, rfl⟩ | ⟨_, _, rfl⟩
  · cases hu; rfl
  · have hu := hu.dd; cases hu; rfl
  · cases hu; rfl
  · have hu := hu.dd; cases hu; rfl

theorem sim_un (hG : GR G w (owned pl H)) (hH : HR w pl Bd H) (hE : RE w (owned pl H) pl (hlen H) env a) {o : Oper} {op : UnOp} {t : TypeId} {X : Operand} (ho : o.op = .unOp op t X) {x : AOpd} (hx : opdOk x X = true) {p z : D} (hp : opd G env x = .d p)
    (hz : unD op p = some z) : OpSim P o a w pl Bd H (.d z) H := by
  have hu := opd_ok hx hG hE (by rw [hp]; rfl)
  rw [hp] at hu
  have hu := hu.dd
  unfold unD at hz
  split at hz
  · simp at hz; subst hz
    have he := hu.int_eq
    exact .pure hH (u := .int _ _) (by simp only [execOp, ho, he, Op.unary, Op.intArith, Int.zero_sub]; rfl) (.d _ _ (.int _ _))
  · simp at hz; subst hz
    have he := hu.bool_eq
    exact .pure hH (u := .bool _) (by simp only [execOp, ho, he, Op.unary]; rfl) (.d _ _ (.bool _))
  · simp at hz

theorem sim_cvInt (hG : GR G w (owned pl H)) (hH : HR w pl Bd H) (hE : RE w (owned pl H) pl (hlen H) env a) {o : Oper} {src dst : TypeId} {X : Operand} (ho : o.op = .convert src dst X) {x : AOpd} (hx : opdOk x X = true) {k k' : IntKind} {n : Int} (hp : opd G env x = .d (.int k' n))
    (hd : descIs P dst (intIs k) = true) (hs : (P.underlying src).isSome = true) : OpSim P o a w pl Bd H (.d (.int k (k.wrap n))) H := by
  have hu := opd_ok hx hG hE (by rw [hp]; rfl)
  rw [hp] at hu
  have he := hu.dd.int_eq
  obtain ⟨ds, hds, hk⟩ := descIs_some hd
  obtain ⟨ss, hss⟩ := Option.isSome_iff_exists.1 hs
  cases ds <;> simp [intIs] at hk
  subst hk
  exact .pure hH (u := .int k (k.wrap n)) (by simp [execOp, ho, he, convert, run_underlying hss, run_underlying hds, Conv.intToInt]) (.d _ _ (.int _ _))

theorem sim_cvId (hG : GR G w (owned pl H)) (hH : HR w pl Bd H) (hE : RE w (owned pl H) pl (hlen H) env a) {o : Oper} {src dst : TypeId} {X : Operand} (ho : o.op = .convert src dst X) {x : AOpd} (hx : opdOk x X = true) {s : List UInt8} (hp : opd G env x = .d (.str s))
    (hd : descIs P dst isStr = true) (hs : (P.underlying src).isSome = true) : OpSim P o a w pl Bd H (.d (.str s)) H := by
  have hu := opd_ok hx hG hE (by rw [hp]; rfl)
  rw [hp] at hu
  obtain ⟨t, he, _, _⟩ := hu.dd.str_eq
  obtain ⟨ds, hds, hk⟩ := descIs_some hd
  obtain ⟨ss, hss⟩ := Option.isSome_iff_exists.1 hs
  cases ds <;> simp [isStr] at hk
  refine .pure hH (u := a.eval X) ?_ hu
  simp only [execOp, ho, he]
  cases ss <;> simp [convert, run_underlying hss, run_underlying hds]

theorem sim_mkfn (hG : GR G w (owned pl H)) (hH : HR w pl Bd H) (hE : RE w (owned pl H) pl (hlen H) env a) {o : Oper} {f : Fn} {first caps : Array Operand} (ho : o.op = .makeFunc f first caps) (hf : first.size = 0) {cs : List AOpd} (hc : opdsOk cs caps.toList = true)
    (hk : ∀ c ∈ cs, (opd G env c).ok = true) {v : V} (hv : (∃ xs, allD (cs.map (opd G env)) = some xs ∧ v = .d (.fn f xs)) ∨ v = .fn f (cs.map (opd G env))) : OpSim P o a w pl Bd H v H := by
  have hl : ∀ (cs : List AOpd) (ys : List Operand), opdsOk cs ys = true → ys.length = cs.length ∧ ∀ i, i < cs.length → opdOk (cs.getD i .u) (ys.getD i (.tmp 0)) = true := by
    intro cs
    induction cs with
    | nil => intro ys h; cases ys <;> simp [opdsOk] at h ⊢
    | cons c cs ih =>
      intro ys h
      cases ys with
      | nil => simp [opdsOk] at h
      | cons y ys =>
        simp only [opdsOk, Bool.and_eq_true] at h
        obtain ⟨h1, h2⟩ := ih ys h.2
        refine ⟨by simp [h1], fun i hi => ?_⟩
        cases i with
        | zero => exact h.1
        | succ i => exact h2 i (by simpa using hi)
  obtain ⟨h1, h2⟩ := hl cs caps.toList hc
  have hrel : ∀ i, i < (cs.map (opd G env)).length → RV w (owned pl H) pl (hlen H) ((cs.map (opd G env)).getD i .any) ((caps.map a.eval).getD i undef) := by
    intro i hi
    have hi' : i < cs.length := by simpa using hi
    have hi2 : i < caps.size := by simp at h1; omega
    have h3 := h2 i hi'
    have hcs : cs.getD i .u = cs[i] := by simp [List.getD_eq_getElem?_getD, hi']
    have hys : caps.toList.getD i (.tmp 0) = caps[i] := by simp [List.getD_eq_getElem?_getD, hi2]
    rw [hcs, hys] at h3
    have := opd_ok h3 hG hE (hk _ (List.getElem_mem hi'))
    simpa [List.getD_eq_getElem?_getD, Array.getD_eq_getD_getElem?, hi', hi2] using this
  have hsz : (caps.map a.eval).size = (cs.map (opd G env)).length := by simp at h1 ⊢; omega
  have hfi : first.map a.eval = #[] := by
    have : first = #[] := Array.eq_empty_of_size_eq_zero hf
    rw [this]; simp
  refine .pure hH (u := .func f #[] (caps.map a.eval)) (by simp [execOp, ho, Instr.makeFunc, hfi]) ?_
  rcases hv with ⟨xs, hx, rfl⟩ | rfl
  · have hxe := allD_some hx
    rw [hxe] at hrel hsz
    refine .d _ _ (.fn f xs _ (by simpa using hsz) fun i hi => ?_)
    have := hrel i (by simpa using hi)
    simp only [List.getD_eq_getElem?_getD, List.getElem?_map, List.getElem?_eq_getElem hi, Option.map_some, Option.getD_some] at this ⊢
    exact this.dd
  · exact .fn f _ _ hsz hrel

theorem sim_extract (hG : GR G w (owned pl H)) (hH : HR w pl Bd H) (hE : RE w (owned pl H) pl (hlen H) env a) {o : Oper} {X : Operand} {i : Nat} (ho : o.op = .extract X i) {x : AOpd} (hx : opdOk x X = true) {vs : List V} (hp : opd G env x = .tup vs) {v : V} (hv : vs[i]? = some v) : OpSim P o a w pl Bd H v H := by
  have hu := opd_ok hx hG hE (by rw [hp]; rfl)
  rw [hp] at hu
  generalize hue : a.eval X = u at hu
  have hil := (List.getElem?_eq_some_iff.1 hv).1
  cases hu with
  | tup _ us hl h =>
    have := h i hil
    have hi2 : i < us.size := by omega
    simp only [List.getD_eq_getElem?_getD, hv, Option.getD_some, Array.getD_eq_getD_getElem?, Array.getElem?_eq_getElem hi2] at this
    exact .pure hH (u := us[i]) (by simp [execOp, ho, hue, Instr.extract, hi2]) this

theorem sim_mkiface (hG : GR G w (owned pl H)) (hH : HR w pl Bd H) (hE : RE w (owned pl H) pl (hlen H) env a) {o : Oper} {t : TypeId} {X : Operand} (ho : o.op = .makeInterface t X) {x : AOpd} (hx : opdOk x X = true) {p : D} (hp : opd G env x = .d p)
    (hd : descIs P t (fun d => !isIface d) = true) : OpSim P o a w pl Bd H (.d (.iface t p)) H := by
  have hu := opd_ok hx hG hE (by rw [hp]; rfl)
  rw [hp] at hu
  obtain ⟨ds, hds, hk⟩ := descIs_some hd
  refine .pure hH (u := .iface t (a.eval X)) ?_ (.d _ _ (.iface t _ _ hu.dd))
  cases ds <;> first | (simp [isIface] at hk; done) | simp [execOp, ho, Instr.makeInterface, run_underlying hds]

theorem sliceOf_some {t e : Nat} (h : sliceOf P t = some e) : P.underlying t = some (.slice e) := by
  unfold sliceOf at h
  split at h
  · rename_i e' h'; simp at h; subst h; exact h'
  · simp at h

theorem sim_len (hG : GR G w (owned pl H)) (hH : HR w pl Bd H) (hE : RE w (owned pl H) pl (hlen H) env a) {o : Oper} {X : Operand} {t : TypeId} {as : Array Operand} {ts : Array TypeId} (ho : o.op = .call { callee := .builtin .len, args := as, argTypes := ts }) (has : as.toList = [X]) (hts : ts[0]? = some t) {x : AOpd} (hx : opdOk x X = true)
    {n : Nat} (hp : (descIs P t isStr = true ∧ ∃ s, opd G env x = .d (.str s) ∧ n = s.length) ∨ ((sliceOf P t).isSome = true ∧ ((∃ e xs, opd G env x = .d (.vals e xs) ∧ n = xs.length) ∨ (∃ e, opd G env x = .nils e ∧ n = 0) ∨ (∃ r g i, opd G env x = .slc r g i n)))) :
    OpSim P o a w pl Bd H (.d (.int .i64 (n : Int))) H := by
  have hu := opd_ok hx hG hE (by rcases hp with ⟨_, _, h, _⟩ | ⟨_, ⟨_, _, h, _⟩ | ⟨_, h, _⟩ | ⟨_, _, _, h⟩⟩ <;> rw [h] <;> rfl)
  have has' : as = #[X] := by cases as; simp at has; subst has; rfl
  refine .pure hH (u := .int .i64 n) ?_ (.d _ _ (.int _ _))
  simp only [execOp, ho, resolve, has', Sem.run_bind, Sem.run_pure, Result.andThen_ok, invoke, builtin, List.map_toArray, List.map_cons, List.map_nil]
  generalize a.eval X = u at hu
  rcases hp with ⟨hd, s, h, hn⟩ | ⟨hd, hp⟩
  · rw [h] at hu
    obtain ⟨t', rfl, _, hsz⟩ := hu.dd.str_eq
    obtain ⟨ds, hds, hk⟩ := descIs_some hd
    cases ds <;> simp [isStr] at hk
    simp [Builtin.len_, hts, run_underlying hds, hsz, hn, goInt]
  · obtain ⟨e, he⟩ := Option.isSome_iff_exists.1 hd
    have hds := sliceOf_some he
    have hs : ∃ A c, u = .slice A n c := by
      rcases hp with ⟨_, _, h, hn⟩ | ⟨_, h, hn⟩ | ⟨_, _, _, h⟩ <;> rw [h] at hu
      · have hu := hu.dd
        subst hn
        cases hu
        · exact ⟨_, _, rfl⟩
        · exact ⟨_, _, rfl⟩
      · subst hn; cases hu; exact ⟨_, _, rfl⟩
      · cases hu
        · exact ⟨_, _, rfl⟩
        · exact ⟨_, _, rfl⟩
    obtain ⟨A, c, rfl⟩ := hs
    simp [Builtin.len_, hts, run_underlying hds, goInt]

theorem strOf_nums {vs : List V} {s : List UInt8} (h : strOf vs = some s) : ∃ ns : List Int, vs = ns.map (fun n => V.d (.int .u8 n)) ∧ s = ns.map (fun n => UInt8.ofNat n.toNat) := by
  induction vs generalizing s with
  | nil => simp [strOf] at h; subst h; exact ⟨[], rfl, rfl⟩
  | cons v r ih =>
    unfold strOf at h
    split at h
    · rename_i heq; simp at heq
    · rename_i n r' heq
      simp only [List.cons.injEq] at heq
      obtain ⟨rfl, rfl⟩ := heq
      split at h
      · rename_i s' hs'
        simp at h; subst h
        obtain ⟨ns, h1, h2⟩ := ih hs'
        exact ⟨n :: ns, by simp [h1], by simp [h2]⟩
      · simp at h
    · simp at h
end
end Go.Ev
