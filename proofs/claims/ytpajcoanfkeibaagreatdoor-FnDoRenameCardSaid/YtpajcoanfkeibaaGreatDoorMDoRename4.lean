/- Lemmas (several texts in one). -/
import Derived.Test.YtpajcoanfkeibaaGreatDoorMDoRename3
import Derived.LoopN
import Derived.Scope
import Derived.Below
import Derived.IntWalk
import Derived.SliceStrings
set_option linter.unusedSimpArgs false
set_option linter.unusedVariables false
namespace Go.Ev
open Go
def F7 (P:Program) (nt:Nat):Code→ACode→Bool
 | .skip, .skip=>true
 | .region _ ops draw, .reg draw' aos=> ((draw==draw') &&Ma P ops nt ops.toList aos&& (!draw||Bmv ops aos)) || (draw&&Beu P ops nt aos)
 | .region _ ops draw, .regx L=>draw&&By9 P ops nt L
 | .seq x y, .seq a _ b=>F7 P nt x a&&F7 P nt y b
 | .cond c x y, .cond d a b=>Cc d c&&F7 P nt x a&&F7 P nt y b
 | .block i x, .block j a=>Nat.beq i j&&F7 P nt x a
 | .loop x, .loop _ a=>F7 P nt x a
 | .scope x, .scope a=>F7 P nt x a
 |c, .trim _ a=>F7 P nt c a
 |c, .frz _ a=>F7 P nt c a
 | .exit i, .exit j=>Nat.beq i j
 | .ret, .ret=>true
 |_,_=>false
def Out.to:Out→Exit
 | .normal=> .normal
 | .exit id=> .exit id
 | .ret=> .ret
theorem Brs (env:Env) (lv:List Nat) (t:Nat): ((env.keep lv).get t).ok=true→(env.keep lv).get t=env.get t:=by
 induction lv with
 |nil=>intro h;simp[Env.keep,Env.get,V.ok] at h
 |cons k lv ih=>
  simp only[Env.keep,Env.get]
  cases hb:Nat.beq k t with
  |true=>intro _;rw[Nat.eq_of_beq_eq_true hb];rfl
  |false=>exact ih
section
variable {P:Program} {cl:Fe} {G:Gx} {Bd:Nat→Prop} {w0:World} {O0:Jn} {pl0:Pl} {n0 nt:Nat}
theorem Rel.keep {st:St} {a:Act} {w:World} (h:Rel G Bd w0 O0 pl0 n0 nt st a w) (lv:List Nat):Rel G Bd w0 O0 pl0 n0 nt ⟨st.env.keep lv,st.hp⟩ a w:=by
 obtain⟨⟨pl,h1,h2,h3,h4,h5,h6⟩,h7,h8⟩:=h
 refine⟨⟨pl,h1,fun t ht=> ?_,h3,h4,h5,h6⟩,h7,h8⟩
 have:=Brs st.env lv t ht
 rw[this] at ht⊢
 exact h2 t ht
def B04 (lp: (St→Option (Out×St))→List Nat→St→Option (Out×St)):Prop:=∀f lv st r,lp f lv st=some r→∃n,Jd f lv n st=some r
theorem RV.lowT {w:World} {O:Jn} {pl:Pl} {n m:Nat} {v:V} {u:Value} (h:RV w O pl n v u) (hb:Go.Ev.Xl m v=true):RV w O pl m v u:=by
 cases h with
 |d x u h=>exact .d x u h
 |agg cs us hl h1 h=>exact RV.lower (.agg cs us hl h1 h) hb (Nat.le_refl _)
 |tup cs us hl h=>simp[Go.Ev.Xl,Ke,Fz] at hb
 |nils e a=>exact .nils e a
 |any u=>exact .any u
 |slc r' g i k b e c hlt hp hk=>exact RV.lower1 (.slc r' g i k b e c hlt hp hk) hb (Nat.le_refl _)
 |slc0 r' g i a cap hi hlt=>exact RV.lower1 (.slc0 r' g i a cap hi hlt) hb (Nat.le_refl _)
 |ptr r' g i j b e c hlt hp=>exact RV.lower1 (.ptr r' g i j b e c hlt hp) hb (Nat.le_refl _)
 |fn f cs us hl h=>
  refine .fn f cs us hl fun i hi=> (h i hi).lower1 (r:=m) ?_ (Nat.le_refl _)
  simp only[Go.Ev.Xl,List.all_eq_true] at hb
  have:cs.getD i .any=cs[i]:=by simp[List.getD_eq_getElem?_getD,hi]
  rw[this]
  exact hb _ (List.getElem_mem hi)
 |mref r b e c hr h=>exact .mref r b e c (by simpa[Go.Ev.Xl] using hb) h
 |und=>exact .und
theorem Bg4 (env:Env): ∀ (lv:List Nat) (t:Nat),(t∈lv∧(env.keep lv).get t=env.get t)∨(env.keep lv).get t= .any
 | [],t=> .inr rfl
 |k::lv,t=>by
  simp only[Env.keep,Env.get]
  cases hb:Nat.beq k t with
  |true=>rw[Nat.eq_of_beq_eq_true hb];exact .inl ⟨by simp,rfl⟩
  |false=>
   rcases Bg4 env lv t with⟨h1,h2⟩ |h
   ·exact .inl ⟨by simp[h1],h2⟩
   ·exact .inr h
theorem HR.fewer {w:World} {pl:Pl} {Bd Bd':Nat→Prop} {H:Hp} (h:HR w pl Bd H) (hb: ∀m,Bd' m→Bd m):HR w pl Bd' H:=
 ⟨h.obj,h.inj,fun m hm=>h.bd m (hb m hm),fun m hm=>h.le m (hb m hm)⟩
theorem Baw (hm:P.follows .mixedOrders=true) (hcl:Gd P G cl) {lp: (St→Option (Out×St))→List Nat→St→Option (Out×St)} (hlp:B04 lp):
  ∀ (ac:ACode) (c:Code),F7 P nt c ac=true→∀ {Bd:Nat→Prop} {w0:World} {O0:Jn} {pl0:Pl} {n0:Nat} {B:Bn} (hn0:Rb Bd B) (st:St) (out:Out) (st':St),Bp cl G B lp ac st=some (out,st')→∀ (a:Act) (w:World) (Q:Exit→Act→World→Prop),Rel G Bd w0 O0 pl0 n0 nt st a w→
   (∀a' w',Rel G Bd w0 O0 pl0 n0 nt st' a' w'→Q out.to a' w')→c.wp P Q a w:=by
 intro ac
 induction ac with
 |skip=>
  intro c hc Bd w0 O0 pl0 n0 B hn0 st out st' h a w Q hR hQ
  cases c<;>simp only[F7,Bool.false_eq_true] at hc
  simp only[Bp,Option.some.injEq,Prod.mk.injEq] at h
  obtain⟨rfl,rfl⟩:=h
  exact wp_skip (hQ a w hR)
 |reg draw aos=>
  intro c hc Bd w0 O0 pl0 n0 B hn0 st out st' h a w Q hR hQ
  cases c<;>simp only[F7,Bool.false_eq_true] at hc
  rename_i id ops dr
  rw[Bool.or_eq_true,Bool.and_eq_true,Bool.and_eq_true,Bool.or_eq_true,Bool.and_eq_true] at hc
  simp only[Bp] at h
  split at h
  ·rename_i s1 h1
   simp only[Option.some.injEq,Prod.mk.injEq] at h
   obtain⟨rfl,rfl⟩:=h
   rcases hc with hc| ⟨rfl,hc⟩
   ·exact Bpe hm hcl hn0 hc.1.2 (fun hd=>hc.2.resolve_left (by simp[hd])) hR h1 hQ
   ·exact Bk4 hm hcl hn0 hc hR h1 hQ
  ·simp at h
 |regx L=>
  intro c hc Bd w0 O0 pl0 n0 B hn0 st out st' h a w Q hR hQ
  cases c<;>simp only[F7,Bool.false_eq_true] at hc
  rename_i id ops dr
  rw[Bool.and_eq_true] at hc
  obtain⟨rfl,hc⟩:=hc
  simp only[Bp] at h
  split at h
  ·rename_i s1 h1
   simp only[Option.some.injEq,Prod.mk.injEq] at h
   obtain⟨rfl,rfl⟩:=h
   exact Bk5 hm hcl hn0 hc hR h1 hQ
  ·simp at h
 |seq x lv y ihx ihy=>
  intro c hc Bd w0 O0 pl0 n0 B hn0 st out st' h a w Q hR hQ
  cases c<;>simp only[F7,Bool.false_eq_true] at hc
  rename_i cx cy
  rw[Bool.and_eq_true] at hc
  simp only[Bp] at h
  refine wp_seq ?_
  split at h
  ·rename_i s1 h1
   exact ihx cx hc.1 hn0 st .normal s1 h1 a w _ hR fun a' w' hR'=>ihy cy hc.2 hn0 _ out st' h a' w' Q (hR'.keep lv) hQ
  ·rename_i hne
   refine ihx cx hc.1 hn0 st out st' h a w _ hR fun a' w' hR'=> ?_
   have:=hQ a' w' hR'
   cases out with
   |normal=>exact absurd h (hne st')
   |exit id=>exact this
   |ret=>exact this
 |cond d x y ihx ihy=>
  intro c hc Bd w0 O0 pl0 n0 B hn0 st out st' h a w Q hR hQ
  cases c<;>simp only[F7,Bool.false_eq_true] at hc
  rename_i oc cx cy
  rw[Bool.and_eq_true,Bool.and_eq_true] at hc
  simp only[Bp] at h
  split at h
  ·rename_i t ht
   have hv:a.eval oc= .bool t:=by
    obtain⟨⟨pl,h1,h2,h3,h4,h5,h6⟩,h7,h8⟩:=hR
    have:=Cu hc.1.1 h3 h2 (by rw[ht];rfl)
    rw[ht] at this
    exact this.bool_eq
   refine wp_cond hv ?_
   cases t with
   |true=>exact ihx cx hc.1.2 hn0 st out st' h a w Q hR hQ
   |false=>exact ihy cy hc.2 hn0 st out st' h a w Q hR hQ
  ·simp at h
 |block id x ih=>
  intro c hc Bd w0 O0 pl0 n0 B hn0 st out st' h a w Q hR hQ
  cases c<;>simp only[F7,Bool.false_eq_true] at hc
  rename_i id' cx
  rw[Bool.and_eq_true] at hc
  have hid:=Nat.eq_of_beq_eq_true hc.1
  subst hid
  simp only[Bp] at h
  refine wp_block ?_
  split at h
  ·rename_i k s1 h1
   refine ih cx hc.2 hn0 st _ s1 h1 a w _ hR fun a' w' hR'=> ?_
   show Exit.inBlock id' Q (.exit k) a' w'
   simp only[Exit.inBlock]
   cases hb:Nat.beq k id' with
   |true=>
    rw[if_pos (Nat.eq_of_beq_eq_true hb)]
    rw[hb] at h
    simp only[cond_true,Option.some.injEq,Prod.mk.injEq] at h
    obtain⟨rfl,rfl⟩:=h
    exact hQ a' w' hR'
   |false=>
    rw[if_neg (fun he=>by subst he;simp at hb)]
    rw[hb] at h
    simp only[cond_false,Option.some.injEq,Prod.mk.injEq] at h
    obtain⟨rfl,rfl⟩:=h
    exact hQ a' w' hR'
  ·rename_i hne
   refine ih cx hc.2 hn0 st out st' h a w _ hR fun a' w' hR'=> ?_
   have:=hQ a' w' hR'
   cases out with
   |normal=>exact this
   |exit k=>exact absurd h (hne k st')
   |ret=>exact this
 |loop lv x ih=>
  intro c hc Bd w0 O0 pl0 n0 B hn0 st out st' h a w Q hR hQ
  cases c<;>simp only[F7,Bool.false_eq_true] at hc
  rename_i cx
  simp only[Bp] at h
  obtain⟨n,hn⟩:=hlp _ _ _ _ h
  refine wp_loop_rounds n ?_
  clear h
  induction n generalizing st a w with
  |zero=>simp[Jd] at hn
  |succ n ihn=>
   simp only[Jd] at hn
   show cx.wp P _ a w
   split at hn
   ·rename_i s1 h1
    exact ih cx hc hn0 _ .normal s1 h1 a w _ (hR.keep lv) fun a' w' hR'=>ihn s1 a' w' hR' hn
   ·rename_i hne
    refine ih cx hc hn0 _ out st' hn a w _ (hR.keep lv) fun a' w' hR'=> ?_
    have:=hQ a' w' hR'
    cases out with
    |normal=>exact absurd hn (hne st')
    |exit id=>exact this
    |ret=>exact this
 |scope x ih=>
  intro c hc Bd w0 O0 pl0 n0 B hn0 st out st' h a w Q hR hQ
  cases c<;>simp only[F7,Bool.false_eq_true] at hc
  rename_i cx
  simp only[Bp] at h
  refine wp_scope_straight (ih cx hc hn0 st out st' h a w _ hR fun a' w' hR'=> ?_)
  have:=hQ a' w' hR'
  cases out<;>exact this
 |trim lv x ih=>
  intro c hc Bd w0 O0 pl0 n0 B hn0 st out st' h a w Q hR hQ
  have hc':F7 P nt c x=true:=by
   cases c<;>exact hc
  obtain⟨⟨pl,h1,h2,h3,h4,h5,h6⟩,h7,h8⟩:=hR
  have hn1:Rb (fun m=>Bd m∨m=Bc st.hp) ⟨B.n,Bc st.hp::B.ts⟩:=fun m hm=>by
   rcases hm with hm|rfl
   ·rcases hn0 m hm with h|h
    ·exact .inl h
    ·exact .inr (List.mem_cons_of_mem _ h)
   ·exact .inr (List.mem_cons_self ..)
  have hR1:Rel G (fun m=>Bd m∨m=Bc st.hp) w (Bj pl st.hp) pl (Bc st.hp) nt st a w:=⟨⟨pl,h1.enter,h2,h3,Ext.refl _ _,PlExt.refl _ _,Nat.le_refl _⟩,h7,h8⟩
  simp only[Bp] at h
  cases hx:Bp cl G ⟨B.n,Bc st.hp::B.ts⟩ lp x st with
  |none=>rw[hx] at h;simp at h
  |some p=>
   obtain⟨o,s1⟩:=p
   rw[hx] at h
   refine ih c hc' hn1 st o s1 hx a w Q hR1 fun a' w' hR'=> ?_
   obtain⟨⟨pl',k1,k2,k3,k4,k5,k6⟩,k7,k8⟩:=hR'
   have other: (out=o∧st'=s1)→Q o.to a' w':=by
    rintro⟨rfl,rfl⟩
    exact hQ a' w' ⟨⟨pl',k1.fewer (fun m hm=> .inl hm),k2,k3,h4.trans k4,h5.trans (k5.le h6),Nat.le_trans h6 k6⟩,k7,k8⟩
   cases o with
   |normal=>
    simp only at h
    split at h
    ·rename_i hlow
     simp only[Option.some.injEq,Prod.mk.injEq] at h
     obtain⟨rfl,rfl⟩:=h
     obtain⟨t1,t2⟩:=k1.take (Bc st.hp) (Or.inr rfl) (Bd':=Bd) (fun m hm=> ⟨Or.inl hm,h1.le m hm⟩)
     refine hQ a' w' ⟨⟨pl',t1,fun t ht=> ?_,k3.mono t2,h4.trans (k4.trans t2),h5.trans (k5.le h6),by rw[F9 k6];exact h6⟩,k7,k8⟩
     rw[F9 k6]
     rcases Bg4 s1.env lv t with⟨g1,g2⟩ |g
     ·rw[g2] at ht⊢
      have:=List.all_eq_true.1 hlow t g1
      exact((k2 t ht).lowT this).mono t2 (PlExt.refl _ _) (Nat.le_refl _)
     ·rw[g] at ht;simp[V.ok] at ht
    ·simp at h
   |exit id=>exact other (by simpa using h.symm)
   |ret=>exact other (by simpa using h.symm)
 |frz ts x ih=>
  intro c hc Bd w0 O0 pl0 n0 B hn0 st out st' h a w Q hR hQ
  have hc':F7 P nt c x=true:=by
   cases c<;>exact hc
  simp only[Bp] at h
  split at h
  ·rename_i e1 H1 hf
   obtain⟨⟨pl,h1,h2,h3,h4,h5,h6⟩,h7,h8⟩:=hR
   obtain⟨k1,k2,k3,k4⟩:=Bmp ts h1 h2 hf
   exact ih c hc' hn0 _ out st' h a w Q ⟨⟨pl,k1,by rw[←k3] at k4;exact k4,h3.mono k2,h4.trans k2,h5,by rw[k3];exact h6⟩,h7,h8⟩ hQ
  ·simp at h
 |exit id=>
  intro c hc Bd w0 O0 pl0 n0 B hn0 st out st' h a w Q hR hQ
  cases c<;>simp only[F7,Bool.false_eq_true] at hc
  have hid:=Nat.eq_of_beq_eq_true hc
  subst hid
  simp only[Bp,Option.some.injEq,Prod.mk.injEq] at h
  obtain⟨rfl,rfl⟩:=h
  exact wp_exit (hQ a w hR)
 |ret=>
  intro c hc Bd w0 O0 pl0 n0 B hn0 st out st' h a w Q hR hQ
  cases c<;>simp only[F7,Bool.false_eq_true] at hc
  simp only[Bp,Option.some.injEq,Prod.mk.injEq] at h
  obtain⟨rfl,rfl⟩:=h
  exact wp_ret (hQ a w hR)
end
section
variable {P:Program}
theorem Bpj {α β γ:Type} (x:Sem α) (f:α→Sem β) (g:β→Sem γ): (x.bind f).bind g=x.bind (fun a=> (f a).bind g):=by
 induction x<;>simp only[Sem.bind]<;>first|rfl| (congr 1;funext y;apply_assumption) |simp_all
theorem Wl:LawfulMonad Sem:=LawfulMonad.mk' Sem (id_map:=by intro α x;show Sem.bind x _=x;induction x<;>simp only[Sem.bind]<;>first|rfl| (congr 1;funext y;apply_assumption) |simp_all) (pure_bind:=fun _ _=>rfl) (bind_assoc:=fun x f g=>Bpj x f g)
theorem Bid {α:Type} {f:α→Sem Value} {w:World} : ∀ {ags:List α} {us:List Value},us.length=ags.length→(∀i x,ags[i]? =some x→(f x).run P w= .ok (us.getD i undef) w)→(ags.mapM f).run P w= .ok us w
 | [],[],_,_=>by haveI:=Wl;simp[List.mapM_nil]
 | [],_::_,h,_=>by simp at h
 |_::_,[],h,_=>by simp at h
 |a::ags,u::us,hl,h=>by
  haveI:=Wl
  have h0:=h 0 a (by simp)
  have h1:=Bid (ags:=ags) (us:=us) (by simpa using hl) (fun i x hx=>h (i+1) x (by simpa using hx))
  rw[List.mapM_cons,Sem.run_bind,h0]
  simp only[List.getD_cons_zero]
  show Sem.run P (List.mapM f ags>>=fun l=>pure (u::l)) w=_
  rw[Sem.run_bind,h1]
  rfl
theorem Bla {α:Type} {f:α→Sem Value} {ags:Array α} {us:List Value} {w:World} (hl:us.length=ags.toList.length) (h: ∀i x,ags.toList[i]? =some x→(f x).run P w= .ok (us.getD i undef) w): (ags.mapM f).run P w= .ok us.toArray w:=by
 haveI:=Wl
 rw[Array.mapM_eq_mapM_toList,map_eq_pure_bind,Sem.run_bind,Bid hl h]
 rfl
def Tg (P:Program):List ARes→List ResultVar→Bool
 | [],[]=>true
 | .tmp t::r, .tmp u::s=>Nat.beq t u&&Tg P r s
 | .cell t ag n::r, .cell u ty::s=>Nat.beq t u&&R5 P ty ag&&Lx P ty n&&Tg P r s
 |_,_=>false
def Bci (vs:Array Value):Value:=if h:vs.size=1 then vs[0] else .tuple vs
variable {w:World} {pl:Pl} {Bd:Nat→Prop} {H:Hp} {env:Env} {a:Act}
def Bch (P:Program) (a:Act) (w:World) (x:ResultVar) (u:Value):Prop:=(match x with
 | .tmp t=> (pure (a.tmps.getD t undef):Sem Value)
 | .cell c t=>do loadVar t (←asAddr (a.tmps.getD c undef))).run P w= .ok u w
theorem Bk6 (hH:HR w pl Bd H) (hE:RE w (Bj pl H) pl (Bc H) env a): ∀ (rs:List ARes) (xs:List ResultVar) (vs:List V),Tg P rs xs=true→Tf env H rs=some vs→
  ∃us:List Value,us.length=xs.length∧vs.length=xs.length∧(∀i x,xs[i]? =some x→Bch P a w x (us.getD i undef))∧∀i,i<vs.length→(vs.getD i .any).ok=true→RV w (Bj pl H) pl (Bc H) (vs.getD i .any) (us.getD i undef)
 | [],[],vs,_,h=>by
  simp only[Tf,Option.some.injEq] at h;subst h
  exact⟨[],rfl,rfl,fun i x hx=>by simp at hx,fun i hi=>by simp at hi⟩
 | [],_::_,_,hc,_=>by simp[Tg] at hc
 | .tmp _::_,[],_,hc,_=>by simp[Tg] at hc
 | .cell _ _ _::_,[],_,hc,_=>by simp[Tg] at hc
 | .tmp _::_, .cell _ _::_,_,hc,_=>by simp[Tg] at hc
 | .cell _ _ _::_, .tmp _::_,_,hc,_=>by simp[Tg] at hc
 | .tmp t::rs, .tmp u::xs,vs,hc,h=>by
  simp only[Tg,Bool.and_eq_true] at hc
  have htu:=Nat.eq_of_beq_eq_true hc.1
  subst htu
  simp only[Tf] at h
  split at h
  ·rename_i vs' hvs
   simp only[Option.some.injEq] at h;subst h
   obtain⟨us,h1,h2,h3,h4⟩:=Bk6 hH hE rs xs vs' hc.2 hvs
   refine⟨a.tmps.getD t undef::us,by simp[h1],by simp[h2],fun i x hx=> ?_,fun i hi hk=> ?_⟩
   ·cases i with
    |zero=>simp only[List.getElem?_cons_zero,Option.some.injEq] at hx;subst hx;simp[Bch]
    |succ i=>exact h3 i x (by simpa using hx)
   ·cases i with
    |zero=>exact hE t hk
    |succ i=>exact h4 i (by simpa using hi) hk
  ·simp at h
 | .cell t ag n::rs, .cell u ty::xs,vs,hc,h=>by
  simp only[Tg,Bool.and_eq_true] at hc
  obtain⟨⟨⟨c1,c2⟩,c3⟩,c4⟩:=hc
  have htu:=Nat.eq_of_beq_eq_true c1
  subst htu
  simp only[Tf] at h
  split at h
  ·rename_i p g i j hp
   split at h
   ·rename_i cs hcs
    split at h
    ·rename_i v vs' hv hvs
     simp only[Option.some.injEq] at h;subst h
     obtain⟨us,h1,h2,h3,h4⟩:=Bk6 hH hE rs xs vs' c4 hvs
     have hu:=hE t (by rw[hp];rfl)
     rw[hp] at hu
     obtain⟨b,off,uc,hue,hrc,hn,hk⟩:=Bhb hH hcs hu
     obtain⟨x,hrun,hrv⟩:=Ti c2 c3 hn hk hrc hv
     refine⟨x::us,by simp[h1],by simp[h2],fun i y hy=> ?_,fun i hi hk=> ?_⟩
     ·cases i with
      |zero=>simp only[List.getElem?_cons_zero,Option.some.injEq] at hy;subst hy;simp[Bch,hue,asAddr,hrun]
      |succ i=>exact h3 i y (by simpa using hy)
     ·cases i with
      |zero=>exact hrv
      |succ i=>exact h4 i (by simpa using hi) hk
    ·simp at h
   ·simp at h
  ·simp at h
theorem Bie {fn:Func} {us:List Value} (hl:us.length=fn.results.toList.length) (h: ∀i x,fn.results.toList[i]? =some x→Bch P a w x (us.getD i undef)): (results fn a.tmps).run P w= .ok (Bci us.toArray) w:=by
 unfold results
 rw[Sem.run_bind,Bla hl (fun i x hx=>by
  have:=h i x hx
  unfold Bch at this
  exact this)]
 rfl
theorem Bod {n:Nat} {v v':V} (h:fzV n H v=some v'):v.ok=true:=by
 cases v<;>first|rfl| (simp[fzV,fzA,Ws,fz,M7] at h)
theorem Bs2 {O:Jn} {n:Nat} {ws:List V} {us:List Value} (hl:us.length=ws.length) (h: ∀i,i<ws.length→RV w O pl n (ws.getD i .any) (us.getD i undef)):RV w O pl n (Bcu ws) (Bci us.toArray):=by
 match ws,us,hl,h with
 | [v],[u],_,h=>simpa[Bcu,Bci] using h 0 (by simp)
 | [],[],_,h=>exact .tup _ _ rfl (fun i hi=>by simp at hi)
 |v::v2::vs,us,hl,h=>
  have:us.length≠1:=by simp at hl;omega
  have h1:Bci us.toArray= .tuple us.toArray:=by simp[Bci,this]
  rw[h1]
  refine .tup _ _ (by simpa using hl) fun i hi=> ?_
  have:=h i hi
  simpa[List.getD_eq_getElem?_getD] using this
structure OwnInv (w:World) (pl0:Pl) (H0:Hp) (n:Nat) (H:Hp) (plb:Pl) (Bd:Nat→Prop) (base:Hp):Prop where
 obj: ∀r o,Cf base r=some o→OR w (Bj pl0 H0) plb (Bc base) r o
 inj: ∀r r' b,Gu plb base r=some b→Gu plb base r'=some b→r=r'
 bd: ∀m,Bd m→∀r o,r<m→Cf base r=some o→OR w (Bj pl0 H0) plb m r o
 bdle: ∀m,Bd m→m≤n
 le:n≤Bc base
 ple:PlExt n pl0 plb
 same: ∀r o,Cf H r=some o→o= .dead∨Cf H0 r=some o
 own: ∀b,Bj plb base b→Bj pl0 H0 b
 apart: ∀r b,n≤r→Gu pl0 H r=some b→¬Bj plb base b
theorem OwnInv.ext {pl0:Pl} {H0:Hp} {n:Nat} {plb:Pl} {base:Hp} (h:OwnInv w pl0 H0 n H plb Bd base):Ext w (Bj pl0 H0) w (Bj plb base):=
 ⟨rfl,rfl,rfl,Nat.le_refl _,fun b _ hO=> ⟨rfl,fun hb=>hO (h.own b hb)⟩⟩
theorem OwnInv.hr {pl0:Pl} {H0:Hp} {n:Nat} {plb:Pl} {base:Hp} (h:OwnInv w pl0 H0 n H plb Bd base):HR w plb Bd base:=
 ⟨fun r o ho=> (h.obj r o ho).mono h.ext (PlExt.refl _ _) (Nat.le_refl _) rfl (fun _ _ _ _ _=>rfl),h.inj,fun m hm r o hr ho=> (h.bd m hm r o hr ho).mono h.ext (PlExt.refl _ _) (Nat.le_refl _) rfl (fun _ _ _ _ _=>rfl),
  fun m hm=>Nat.le_trans (h.bdle m hm) h.le⟩
structure OwnTo (w:World) (pl0:Pl) (H0:Hp) (n:Nat) (plb:Pl) (Bd:Nat→Prop) (base:Hp) (H':Hp) (plb':Pl) (base':Hp):Prop where
 inv:OwnInv w pl0 H0 n H' plb' Bd base'
 ple:PlExt (Bc base) plb plb'
 le:Bc base≤Bc base'
theorem Bhl {pl0:Pl} {H0:Hp} {n:Nat} {B0:Nat→Prop} (hH0:HR w pl0 B0 H0) {plb:Pl} {base:Hp} (hI:OwnInv w pl0 H0 n H plb Bd base) {r g e b c:Nat} {xs ys:List V} {arr:Array Value} {ty:TypeId} {fr:Nat×Nat} (hge:n≤r) (hgr:Cf H r=some (.row g e xs)) (hg0:Cf H0 r=some (.row g e xs))
  (hp:pl0 r g=some (b,e,c)) (hh:w.heap[b]? =some (.cells arr ty fr)) (hsa:arr.size=c*e) (hf:Mr fr arr.size) (hyc:ys.length≤c) (hye: ∀i,i<ys.length→(ys.getD i .any).cells.length=e)
  (hyr: ∀i j,i<ys.length→j<e→RV w (Bj pl0 H0) plb (Bc base) ((ys.getD i .any).cells.getD j .any) (arr.getD (i*e+j) undef)) (h1: ∀i j,i<ys.length→j<e→(arr.getD (i*e+j) undef).oneCell'=true):
  OwnTo w pl0 H0 n plb Bd base (Bz H r .dead) (Ku plb (Bc base) (b,e,c)) (Bt base (.row 0 e ys)):=by
 have hbl0:Gu pl0 H0 r=some b:=by simp[Gu,hg0,hp]
 have hbl:Gu pl0 H r=some b:=by simp[Gu,hgr,hp]
 have hnb: ¬Bj plb base b:=hI.apart r b hge hbl
 have hbn:Gu (Ku plb (Bc base) (b,e,c)) (Bt base (.row 0 e ys)) (Bc base)=some b:=by simp[Gu,Dr,Jb]
 have hcase: ∀r' b',Gu (Ku plb (Bc base) (b,e,c)) (Bt base (.row 0 e ys)) r'=some b'→(r'=Bc base∧b'=b)∨(r'<Bc base∧Gu plb base r'=some b'):=by
  intro r' b' hr'
  rcases Nat.lt_trichotomy r' (Bc base) with hlt|heq|hgt
  ·exact .inr ⟨hlt,by rwa[Zc hlt] at hr'⟩
  ·subst heq;rw[hbn] at hr';exact .inl ⟨rfl,by simpa using hr'.symm⟩
  ·obtain⟨o',ho'⟩:=Qc hr'
   have:=D6 ho'
   rw[Ch] at this
   omega
 have hpl:PlExt (Bc base) plb (Ku plb (Bc base) (b,e,c)):=fun r hr g p hp=>by rw[K9 (by omega)];exact hp
 have hle:=hI.le
 have hkill: ∀r' b',Gu pl0 (Bz H r .dead) r'=some b'→r'≠r∧Gu pl0 H r'=some b':=by
  intro r' b' hb
  by_cases hne:r'=r
  ·subst hne
   obtain⟨o,ho⟩:=Qc hb
   have:=D6 ho
   rw[Br] at this
   unfold Gu at hb
   rw[Co _ this] at hb
   simp at hb
  ·refine⟨hne, ?_⟩
   unfold Gu at hb⊢
   rwa[F8 _ hne] at hb
 refine⟨⟨?_, ?_, ?_,hI.bdle,by rw[Ch];omega,hI.ple.trans (hpl.le hle), ?_, ?_, ?_⟩,hpl,by rw[Ch];omega⟩
 ·intro r' o ho
  have hlt:=D6 ho
  rw[Ch] at hlt⊢
  rcases Nat.lt_or_eq_of_le (Nat.lt_succ_iff.1 hlt) with hlt'|heq
  ·rw[Dz _ hlt'] at ho
   exact(hI.obj r' o ho).mono (Ext.refl _ _) hpl (by omega) (by rw[K9 (by omega)]) (fun _ _ _ _ _=>rfl)
  ·subst heq
   rw[Dr] at ho
   obtain rfl:=Option.some.inj ho
   refine .row 0 e ys b c arr ty fr (Jb ..) hh hsa hf hyc hye (fun i' j hi hj=> ?_) h1 (fun g' hg'=> ?_)
   ·exact(hyr i' j hi hj).mono (Ext.refl _ _) hpl (by omega)
   ·show(if Bc base=Bc base then(if g'=0 then some (b,e,c) else none) else plb (Bc base) g')=none
    rw[if_pos rfl,if_neg (by omega)]
 ·intro r1 r2 b1 k1 k2
  rcases hcase _ _ k1 with⟨x1,y1⟩ | ⟨x1,y1⟩<;>rcases hcase _ _ k2 with⟨x2,y2⟩ | ⟨x2,y2⟩
  ·omega
  ·exact absurd ⟨r2,by rw[y2,y1]⟩ hnb
  ·exact absurd ⟨r1,by rw[y1,y2]⟩ hnb
  ·exact hI.inj r1 r2 b1 y1 y2
 ·intro m hm r' o hr' ho
  have hmn:=hI.bdle m hm
  rw[Dz _ (by omega)] at ho
  exact(hI.bd m hm r' o hr' ho).mono (Ext.refl _ _) (hpl.le (by omega)) (Nat.le_refl _) (by rw[K9 (by omega)]) (fun _ _ _ _ _=>rfl)
 ·intro r' o ho
  by_cases hne:r'=r
  ·subst hne
   have:=D6 ho
   rw[Br] at this
   rw[Co _ this] at ho
   exact .inl (by simpa using ho.symm)
  ·rw[F8 _ hne] at ho
   exact hI.same r' o ho
 ·rintro b' ⟨r',hr'⟩
  rcases hcase _ _ hr' with⟨x1,rfl⟩ | ⟨x1,y1⟩
  ·exact⟨r,hbl0⟩
  ·exact hI.own b' ⟨r',y1⟩
 ·rintro r' b' hn hb' ⟨r2,hr2⟩
  obtain⟨hne,hb2⟩:=hkill r' b' hb'
  rcases hcase _ _ hr2 with⟨x1,rfl⟩ | ⟨x1,y1⟩
  ·obtain⟨o,ho⟩:=Qc hb2
   rcases hI.same r' o ho with rfl|h0
   ·simp[Gu,ho] at hb2
   ·have:Gu pl0 H0 r'=some b':=by
     unfold Gu at hb2⊢
     rw[ho] at hb2
     rw[h0];exact hb2
    exact hne (hH0.inj r' r b' this hbl0)
  ·exact hI.apart r' b' hn hb2 ⟨r2,y1⟩
theorem Bhk {pl0:Pl} {H0:Hp} {n:Nat} {B0:Nat→Prop} (hH0:HR w pl0 B0 H0) {plb:Pl} {base:Hp} (hI:OwnInv w pl0 H0 n H plb Bd base) {r g e:Nat} {xs:List V} {ds:List D} (hge:n≤r) (hrow:Cw H r g=some (e,xs)) (hds:Gt xs=some ds):
  ∃b c,pl0 r g=some (b,e,c)∧OwnTo w pl0 H0 n plb Bd base (Bz H r .dead) (Ku plb (Bc base) (b,e,c)) (Bt base (.row 0 e xs)):=by
 have hxs:=Ki hds
 have hgr:=Ju hrow
 rcases hI.same r _ hgr with hd|hg0
 ·simp at hd
 obtain⟨b,c,arr,ty,fr,hp,hh,hsa,hf,hxc,he,hr,h1,_⟩:=Jf hH0 (show Cw H0 r g=some (e,xs) by simp[Cw,hg0])
 refine⟨b,c,hp,Bhl hH0 hI hge hgr hg0 hp hh hsa hf hxc he (fun i' j hi hj=> ?_) h1⟩
 have:=hr i' j hi hj
 subst hxs
 have hi':i'<ds.length:=by simpa using hi
 have hel:=he i' hi
 rw[Dg ds i' hi',Li] at hel
 rw[List.length_map] at hel
 rw[Bj1 hi' (by omega)] at this⊢
 exact .d _ _ this.dd
theorem Bmw {pl0:Pl} {H0:Hp} {n:Nat} {B0:Nat→Prop} (hH0:HR w pl0 B0 H0) {plb:Pl} {base:Hp} (hI:OwnInv w pl0 H0 n H plb Bd base) {v v':V} {H' base':Hp} (h:Wh n H base v=some (v',H',base')) {u:Value} (hu:RV w (Bj pl0 H0) pl0 (Bc H0) v u):
  ∃plb',OwnTo w pl0 H0 n plb Bd base H' plb' base'∧RV w (Bj pl0 H0) plb' (Bc base') v' u:=by
 have hle:=hI.le
 unfold Wh at h
 split at h
 ·simp only[Option.some.injEq,Prod.mk.injEq] at h
  obtain⟨rfl,rfl,rfl⟩:=h
  exact⟨plb,⟨hI,PlExt.refl _ _,Nat.le_refl _⟩, .d _ _ hu.dd⟩
 ·simp only[Option.some.injEq,Prod.mk.injEq] at h
  obtain⟨rfl,rfl,rfl⟩:=h
  refine⟨plb,⟨hI,PlExt.refl _ _,Nat.le_refl _⟩, ?_⟩
  cases hu with
  |nils=>exact .nils _ _
 ·rename_i r g i k
  split at h
  ·rename_i hlt
   simp only[Option.some.injEq,Prod.mk.injEq] at h
   obtain⟨rfl,rfl,rfl⟩:=h
   refine⟨plb,⟨hI,PlExt.refl _ _,Nat.le_refl _⟩, ?_⟩
   cases hu with
   |slc _ _ _ _ b e c _ hp hk=>exact .slc _ _ _ _ b e c (by omega) (hI.ple r hlt g _ hp) hk
   |slc0 _ _ _ A cap hi _=>exact .slc0 _ _ _ A cap hi (by omega)
  ·rename_i hge
   split at h
   ·rename_i e xs hrow
    split at h
    ·rename_i ds hds
     simp only[Option.some.injEq,Prod.mk.injEq] at h
     obtain⟨rfl,rfl,rfl⟩:=h
     obtain⟨b,c,hp,ht⟩:=Bhk hH0 hI (by omega) hrow hds
     refine⟨_,ht, ?_⟩
     cases hu with
     |slc _ _ _ _ b2 e2 c2 hr2 hp2 hk=>
      rw[hp] at hp2
      simp only[Option.some.injEq,Prod.mk.injEq] at hp2
      obtain⟨rfl,rfl,rfl⟩:=hp2
      exact .slc _ _ _ _ b e c (by rw[Ch];omega) (Jb ..) hk
     |slc0 _ _ _ A cap hi _=>omega
    ·simp at h
   ·simp at h
 ·rename_i r g i k
  split at h
  ·rename_i hlt
   simp only[Option.some.injEq,Prod.mk.injEq] at h
   obtain⟨rfl,rfl,rfl⟩:=h
   refine⟨plb,⟨hI,PlExt.refl _ _,Nat.le_refl _⟩, ?_⟩
   cases hu with
   |ptr _ _ _ _ b e c _ hp=>exact .ptr _ _ _ _ b e c (by omega) (hI.ple r hlt g _ hp)
  ·rename_i hge
   split at h
   ·rename_i e xs hrow
    split at h
    ·rename_i ds hds
     simp only[Option.some.injEq,Prod.mk.injEq] at h
     obtain⟨rfl,rfl,rfl⟩:=h
     obtain⟨b,c,hp,ht⟩:=Bhk hH0 hI (by omega) hrow hds
     refine⟨_,ht, ?_⟩
     cases hu with
     |ptr _ _ _ _ b2 e2 c2 hr2 hp2=>
      rw[hp] at hp2
      simp only[Option.some.injEq,Prod.mk.injEq] at hp2
      obtain⟨rfl,rfl,rfl⟩:=hp2
      exact .ptr _ _ _ _ b e c (by rw[Ch];omega) (Jb ..)
    ·simp at h
   ·simp at h
 ·simp at h
theorem Bhi {n:Nat} {base:Hp} {v:V} {r:V×Hp×Hp} (h:Wh n H base v=some r):r.1.sto=true:=by
 unfold Wh at h
 split at h
 ·simp only[Option.some.injEq] at h;subst h;rfl
 ·simp only[Option.some.injEq] at h;subst h;rfl
 ·split at h
  ·simp only[Option.some.injEq] at h;subst h;rfl
  ·split at h
   ·split at h
    ·simp only[Option.some.injEq] at h;subst h;rfl
    ·simp at h
   ·simp at h
 ·split at h
  ·simp only[Option.some.injEq] at h;subst h;rfl
  ·split at h
   ·split at h
    ·simp only[Option.some.injEq] at h;subst h;rfl
    ·simp at h
   ·simp at h
 ·simp at h
structure OwnOk (w:World) (pl0:Pl) (H0:Hp) (n:Nat) (Bd:Nat→Prop) (f:Hp→Hp→V→Option (V×Hp×Hp)):Prop where
 ok: ∀ {H plb base v v' H' base' u},OwnInv w pl0 H0 n H plb Bd base→f H base v=some (v',H',base')→RV w (Bj pl0 H0) pl0 (Bc H0) v u→∃plb',OwnTo w pl0 H0 n plb Bd base H' plb' base'∧RV w (Bj pl0 H0) plb' (Bc base') v' u
 sto: ∀ {H base v r},f H base v=some r→r.1.sto=true
 known: ∀ {H base v r},f H base v=some r→v.ok=true
theorem Bkd {pl0:Pl} {H0:Hp} {n:Nat} {B0:Nat→Prop} (hH0:HR w pl0 B0 H0):OwnOk w pl0 H0 n Bd (Wh n):=
 ⟨fun hI h hu=>Bmw hH0 hI h hu,fun h=>Bhi h,fun {H base v r} h=>by cases v<;>first|rfl| (simp[Wh] at h)⟩
theorem OwnTo.refl {pl0:Pl} {H0:Hp} {n:Nat} {plb:Pl} {base:Hp} (h:OwnInv w pl0 H0 n H plb Bd base):OwnTo w pl0 H0 n plb Bd base H plb base:=⟨h,PlExt.refl _ _,Nat.le_refl _⟩
theorem OwnTo.trans {pl0:Pl} {H0:Hp} {n:Nat} {plb:Pl} {base H1 base1 H2 base2:Hp} {plb1 plb2:Pl} (h:OwnTo w pl0 H0 n plb Bd base H1 plb1 base1) (k:OwnTo w pl0 H0 n plb1 Bd base1 H2 plb2 base2):OwnTo w pl0 H0 n plb Bd base H2 plb2 base2:=
 ⟨k.inv,h.ple.trans (k.ple.le h.le),Nat.le_trans h.le k.le⟩
theorem Bhj {pl0:Pl} {H0:Hp} {n:Nat} {f:Hp→Hp→V→Option (V×Hp×Hp)} (hf:OwnOk w pl0 H0 n Bd f): ∀ (vs:List V) (us:List Value) (H:Hp) (plb:Pl) (base:Hp) (ws:List V) (H' base':Hp),OwnInv w pl0 H0 n H plb Bd base→Bb0 f H base vs=some (ws,H',base')→us.length=vs.length→
  (∀i,i<vs.length→RV w (Bj pl0 H0) pl0 (Bc H0) (vs.getD i .any) (us.getD i undef))→
  ∃plb',OwnTo w pl0 H0 n plb Bd base H' plb' base'∧ws.length=vs.length∧∀i,i<ws.length→RV w (Bj pl0 H0) plb' (Bc base') (ws.getD i .any) (us.getD i undef)
 | [],us,H,plb,base,ws,H',base',hI,h,hl,hu=>by
  simp only[Bb0,Option.some.injEq,Prod.mk.injEq] at h
  obtain⟨rfl,rfl,rfl⟩:=h
  exact⟨plb, .refl hI,rfl,fun i hi=>by simp at hi⟩
 |v::vs,[],H,plb,base,ws,H',base',hI,h,hl,hu=>by simp at hl
 |v::vs,u::us,H,plb,base,ws,H',base',hI,h,hl,hu=>by
  simp only[Bb0] at h
  split at h
  ·rename_i x H1 base1 h1
   obtain⟨plb1,t1,r1⟩:=hf.ok hI h1 (hu 0 (by simp))
   split at h
   ·rename_i xs H2 base2 h2
    simp only[Option.some.injEq,Prod.mk.injEq] at h
    obtain⟨rfl,rfl,rfl⟩:=h
    obtain⟨plb2,t2,l2,r2⟩:=Bhj hf vs us H1 plb1 base1 xs H2 base2 t1.inv h2 (by simpa using hl) (fun i hi=>hu (i+1) (by simpa using hi))
    refine⟨plb2,t1.trans t2,by simp[l2],fun i hi=> ?_⟩
    cases i with
    |zero=>exact r1.mono (Ext.refl _ _) t2.ple t2.le
    |succ i=>exact r2 i (by simpa using hi)
   ·simp at h
  ·simp at h
theorem Bok (cs:List V): (Ni cs).sto=true:=by
 unfold Ni
 split<;>rfl
theorem Br3 {pl0:Pl} {H0:Hp} {n:Nat} {f:Hp→Hp→V→Option (V×Hp×Hp)} (hf:OwnOk w pl0 H0 n Bd f):OwnOk w pl0 H0 n Bd (Zk f):=by
 refine⟨fun {H plb base v v' H' base' u} hI h hu=> ?_,fun {H base v r} h=> ?_,fun {H base v r} h=> ?_⟩
 ·unfold Zk at h
  split at h
  ·rename_i cs
   split at h
   ·rename_i ys H1 base1 h1
    simp only[Option.some.injEq,Prod.mk.injEq] at h
    obtain⟨rfl,rfl,rfl⟩:=h
    cases hu with
    |agg _ us hl ho hr=>
     obtain⟨plb',t,l,r⟩:=Bhj hf cs us.toList H plb base ys _ _ hI h1 (by simpa using hl) (fun i hi=>by
      have:=hr i hi
      simpa[List.getD_eq_getElem?_getD,Array.getD_eq_getD_getElem?] using this)
     refine⟨plb',t,RCs.mkAgg ⟨by omega,fun i hi=> ?_,fun i hi=>ho i (by omega)⟩⟩
     have:=r i hi
     simpa[List.getD_eq_getElem?_getD,Array.getD_eq_getD_getElem?] using this
   ·simp at h
  ·exact hf.ok hI h hu
 ·unfold Zk at h
  split at h
  ·split at h
   ·simp only[Option.some.injEq] at h;subst h;exact Bok _
   ·simp at h
  ·exact hf.sto h
 ·unfold Zk at h
  split at h
  ·rfl
  ·exact hf.known h
theorem Bb1 {pl0:Pl} {H0:Hp} {n:Nat} {f:Hp→Hp→V→Option (V×Hp×Hp)} (hf:OwnOk w pl0 H0 n Bd f): ∀ (vs:List V) (us:List Value) (H:Hp) (plb:Pl) (base:Hp) (ws:List V) (H' base':Hp),OwnInv w pl0 H0 n H plb Bd base→Zl f H base vs=some (ws,H',base')→us.length=vs.length→
  (∀i,i<vs.length→(vs.getD i .any).ok=true→RV w (Bj pl0 H0) pl0 (Bc H0) (vs.getD i .any) (us.getD i undef))→
  ∃plb',OwnTo w pl0 H0 n plb Bd base H' plb' base'∧ws.length=vs.length∧∀i,i<ws.length→(ws.getD i .any).sto=true∧RV w (Bj pl0 H0) plb' (Bc base') (ws.getD i .any) (us.getD i undef)
 | [],us,H,plb,base,ws,H',base',hI,h,hl,hu=>by
  simp only[Zl,Option.some.injEq,Prod.mk.injEq] at h
  obtain⟨rfl,rfl,rfl⟩:=h
  exact⟨plb, .refl hI,rfl,fun i hi=>by simp at hi⟩
 |v::vs,[],H,plb,base,ws,H',base',hI,h,hl,hu=>by simp at hl
 |v::vs,u::us,H,plb,base,ws,H',base',hI,h,hl,hu=>by
  simp only[Zl] at h
  split at h
  ·rename_i x H1 base1 h1
   have hE:=Br3 hf
   obtain⟨plb1,t1,r1⟩:=hE.ok hI h1 (hu 0 (by simp) (hE.known h1))
   have s1:=hE.sto h1
   split at h
   ·rename_i xs H2 base2 h2
    simp only[Option.some.injEq,Prod.mk.injEq] at h
    obtain⟨rfl,rfl,rfl⟩:=h
    obtain⟨plb2,t2,l2,r2⟩:=Bb1 hf vs us H1 plb1 base1 xs H2 base2 t1.inv h2 (by simpa using hl) (fun i hi=>hu (i+1) (by simpa using hi))
    refine⟨plb2,t1.trans t2,by simp[l2],fun i hi=> ?_⟩
    cases i with
    |zero=>exact⟨s1,r1.mono (Ext.refl _ _) t2.ple t2.le⟩
    |succ i=>exact r2 i (by simpa using hi)
   ·simp at h
  ·simp at h
theorem Bju {O:Jn} {pl:Pl} {n e:Nat} {x:V} {us:Array Value} (hrc:RCs w O pl n x.cells us) (he:x.cells.length=e): ∃u,RV w O pl n x u∧u.cells=us:=by
 by_cases hag:x.isAgg=true
 ·refine⟨.agg us, ?_,rfl⟩
  cases x<;>simp[V.isAgg] at hag
  ·rename_i y;cases y<;>simp[V.isAgg] at hag
   rename_i cs
   refine .d _ _ (.agg cs us (by simpa[V.cells] using hrc.size) (fun l hl=>hrc.one l (by simpa[V.cells] using hl)) fun l hl=> ?_)
   have:=hrc.rel l (by simpa[V.cells] using hl)
   simp only[V.cells] at this
   rw[Dg cs l hl] at this
   exact this.dd
  ·rename_i cs
   exact .agg cs us hrc.size hrc.one hrc.rel
 ·have hag':x.isAgg=false:=by simpa using hag
  have hc1:=Rf hag'
  have hrv:=hrc.rel 0 (by rw[hc1];simp)
  have hone:=hrc.one 0 (by rw[hc1];simp)
  have hsz:=hrc.size
  rw[hc1] at hrv hsz
  simp only[List.getD_cons_zero] at hrv
  refine⟨us.getD 0 undef,hrv, ?_⟩
  have hus: (us.getD 0 undef).cells= #[us.getD 0 undef]:=by
   generalize us.getD 0 undef=q at hone
   cases q<;>first|rfl|simp[Value.oneCell'] at hone
  rw[hus]
  apply Array.ext
  ·simpa using hsz.symm
  ·intro i h1 h2
   have:i=0:=by simpa using h1
   subst this
   simp[Array.getD_eq_getD_getElem?,h2]
theorem Bbl {pl0:Pl} {H0:Hp} {n:Nat} {B0:Nat→Prop} (hH0:HR w pl0 B0 H0) {f:Hp→Hp→V→Option (V×Hp×Hp)} (hf:OwnOk w pl0 H0 n Bd f):OwnOk w pl0 H0 n Bd (Ut n f):=by
 refine⟨fun {H plb base v v' H' base' u} hI h hu=> ?_,fun {H base v r} h=> ?_,fun {H base v r} h=> ?_⟩
 ·unfold Ut at h
  split at h
  ·rename_i r0 h1
   simp only[Option.some.injEq] at h
   subst h
   exact Bmw hH0 hI h1 hu
  ·split at h
   ·rename_i r g k hno
    split at h
    ·simp at h
    ·rename_i hge
     split at h
     ·rename_i e xs hrow
      split at h
      ·rename_i ys H1 base1 hes
       split at h
       ·rename_i p hrow1
        simp only[Option.some.injEq,Prod.mk.injEq] at h
        obtain⟨rfl,rfl,rfl⟩:=h
        have hgr:=Ju hrow
        rcases hI.same r _ hgr with hd|hg0
        ·simp at hd
        obtain⟨b,c,arr,ty,fr,hp,hh,hsa,hfz,hxc,he,hr,h1,_⟩:=Jf hH0 (show Cw H0 r g=some (e,xs) by simp[Cw,hg0])
        have hel: ∀i,i<xs.length→∃u,RV w (Bj pl0 H0) pl0 (Bc H0) (xs.getD i .any) u∧u.cells.size=e∧∀j,j<e→u.cells.getD j undef=arr.getD (i*e+j) undef:=by
         intro i hi
         let us:Array Value:=((List.range e).map fun l=>arr.getD (i*e+l) undef).toArray
         have husg: ∀l,l<e→us.getD l undef=arr.getD (i*e+l) undef:=fun l hl=>by
          have hsz:l<us.size:=by simp[us,hl]
          rw[Array.getD_eq_getD_getElem?,Array.getElem?_eq_getElem hsz]
          simp[us]
         have hce:=he i hi
         have hrc:RCs w (Bj pl0 H0) pl0 (Bc H0) (xs.getD i .any).cells us:=⟨by rw[hce];simp[us],fun l hl=>by rw[husg l (by omega)];exact hr _ _ hi (by omega),fun l hl=>by rw[husg l (by omega)];exact h1 _ _ hi (by omega)⟩
         obtain⟨u,hu1,hu2⟩:=Bju hrc hce
         exact⟨u,hu1,by rw[hu2];simp[us],fun j hj=>by rw[hu2];exact husg j hj⟩
        let uv:List Value:=(List.range xs.length).map fun i=>if h:i<xs.length then(hel i h).choose else undef
        have huv: ∀i,i<xs.length→∃u,uv.getD i undef=u∧RV w (Bj pl0 H0) pl0 (Bc H0) (xs.getD i .any) u∧u.cells.size=e∧∀j,j<e→u.cells.getD j undef=arr.getD (i*e+j) undef:=by
         intro i hi
         refine⟨(hel i hi).choose, ?_,(hel i hi).choose_spec⟩
         simp[uv,List.getD_eq_getElem?_getD,hi]
        obtain⟨plb1,t1,l1,r1⟩:=Bb1 hf xs uv H plb base ys H1 base1 hI hes (by simp[uv]) (fun i hi _=>by
         obtain⟨u,e1,e2,_⟩:=huv i hi
         rw[e1];exact e2)
        have hI1:=t1.inv
        obtain⟨e',xs'⟩:=p
        have hgr1:=Ju hrow1
        rcases hI1.same r _ hgr1 with hd|hg1
        ·simp at hd
        rw[hg0] at hg1
        simp only[Option.some.injEq,Obj.row.injEq,true_and] at hg1
        obtain⟨rfl,rfl⟩:=hg1
        have t2:=Bhl hH0 hI1 (ys:=ys) (by omega) hgr1 hg0 hp hh hsa hfz (by omega) (fun i hi=>by
          obtain⟨u,e1,e2,e3,e4⟩:=huv i (by omega)
          obtain⟨s1,s2⟩:=r1 i hi
          have:=(s2.cells s1).size
          rw[e1] at this
          omega) (fun i j hi hj=>by
          obtain⟨u,e1,e2,e3,e4⟩:=huv i (by omega)
          obtain⟨s1,s2⟩:=r1 i hi
          have hc:=s2.cells s1
          rw[e1] at hc
          have:=hc.rel j (by have:=hc.size;omega)
          rwa[e4 j hj] at this) (fun i j hi hj=>h1 i j (by omega) hj)
        refine⟨_,t1.trans t2, ?_⟩
        cases hu with
        |slc _ _ _ _ b2 e2 c2 hr2 hp2 hk=>
         rw[hp] at hp2
         simp only[Option.some.injEq,Prod.mk.injEq] at hp2
         obtain⟨rfl,rfl,rfl⟩:=hp2
         exact .slc _ _ _ _ b e c (by rw[Ch];omega) (Jb ..) hk
        |slc0 _ _ _ A cap hi _=>omega
       ·simp at h
      ·simp at h
     ·simp at h
   ·simp at h
 ·unfold Ut at h
  split at h
  ·rename_i r0 h1
   simp only[Option.some.injEq] at h
   subst h
   exact Bhi h1
  ·split at h
   ·split at h
    ·simp at h
    ·split at h
     ·split at h
      ·split at h
       ·simp only[Option.some.injEq] at h;subst h;rfl
       ·simp at h
      ·simp at h
     ·simp at h
   ·simp at h
 ·cases v<;>first|rfl| (simp[Ut,Wh] at h)
theorem Bwj {pl0:Pl} {H0:Hp} {n:Nat} {B0:Nat→Prop} (hH0:HR w pl0 B0 H0) (vs:List V) (us:List Value) (H:Hp) (plb:Pl) (base:Hp) (ws:List V) (H' base':Hp) (hI:OwnInv w pl0 H0 n H plb Bd base) (h:Bzx n H base vs=some (ws,H',base')) (hl:us.length=vs.length)
  (hu: ∀i,i<vs.length→(vs.getD i .any).ok=true→RV w (Bj pl0 H0) pl0 (Bc H0) (vs.getD i .any) (us.getD i undef)):
  ∃plb',OwnTo w pl0 H0 n plb Bd base H' plb' base'∧ws.length=vs.length∧∀i,i<ws.length→RV w (Bj pl0 H0) plb' (Bc base') (ws.getD i .any) (us.getD i undef):=by
 obtain⟨plb',t,l,r⟩:=Bb1 (Bbl hH0 (Bbl hH0 (Bbl hH0 (Bkd hH0)))) vs us H plb base ws H' base' hI h hl hu
 exact⟨plb',t,l,fun i hi=> (r i hi).2⟩
theorem OwnInv.start {pl0:Pl} {H0:Hp} {n:Nat} {B0:Nat→Prop} (hH0:HR w pl0 B0 H0) (hn:B0 n) (hB: ∀m,Bd m→B0 m∧m≤n):OwnInv w pl0 H0 n H0 pl0 Bd (Cx H0 n):=by
 have hle:=hH0.le n hn
 have hbk: ∀r' b,Gu pl0 (Cx H0 n) r'=some b→r'<n∧Gu pl0 H0 r'=some b:=by
  intro r' b hb
  obtain⟨o,ho⟩:=Qc hb
  obtain⟨hlt,ho'⟩:=Gv ho
  refine⟨hlt, ?_⟩
  unfold Gu at hb⊢
  rwa[Rn hlt] at hb
 refine⟨fun r o ho=> ?_,fun r1 r2 b k1 k2=>hH0.inj r1 r2 b (hbk _ _ k1).2 (hbk _ _ k2).2,fun m hm r o hr ho=> ?_,fun m hm=> (hB m hm).2,by rw[F9 hle];omega,PlExt.refl _ _,fun r o ho=> .inr ho,fun b ⟨r,hr⟩=> ⟨r,(hbk _ _ hr).2⟩,fun r b hr hb ⟨r',hr'⟩=> ?_⟩
 ·obtain⟨hlt,ho'⟩:=Gv ho
  rw[F9 hle]
  exact hH0.bd n hn r o hlt ho'
 ·obtain⟨_,ho'⟩:=Gv ho
  exact hH0.bd m (hB m hm).1 r o hr ho'
 ·obtain⟨hlt,h2⟩:=hbk _ _ hr'
  have:=hH0.inj r r' b hb h2
  omega
end
theorem Zn {f:St→Option (Out×St)} {lv:List Nat} : ∀ {n:Nat} {st:St} {r:Out×St},Jd f lv n st=some r→Jd f lv (n+1) st=some r
 |0,_,_,h=>by simp[Jd] at h
 |n+1,st,r,h=>by
  rw[Jd] at h⊢
  cases hf:f ⟨st.env.keep lv,st.hp⟩ with
  |none=>rw[hf] at h;simp at h
  |some p=>
   obtain⟨o,s⟩:=p
   rw[hf] at h
   cases o with
   |normal=>exact Zn h
   |exit id=>exact h
   |ret=>exact h
theorem Bef {f:St→Option (Out×St)} {lv:List Nat} {n m:Nat} (hm:n≤m) {st:St} {r:Out×St} (h:Jd f lv n st=some r):Jd f lv m st=some r:=by
 induction hm with
 |refl=>exact h
 |step _ ih=>exact Zn ih
open Classical in
noncomputable def Bg (f:St→Option (Out×St)) (lv:List Nat) (st:St):Option (Out×St):=
 if h: ∃r,∃n,Jd f lv n st=some r then some h.choose else none
theorem Jp {f:St→Option (Out×St)} {lv:List Nat} {st:St} {r:Out×St} :Bg f lv st=some r↔∃n,Jd f lv n st=some r:=by
 unfold Bg
 constructor
 ·intro h
  split at h
  ·rename_i hx
   simp only[Option.some.injEq] at h
   rw[←h];exact hx.choose_spec
  ·simp at h
 ·rintro⟨n,hn⟩
  have hx: ∃r,∃n,Jd f lv n st=some r:=⟨r,n,hn⟩
  rw[dif_pos hx]
  obtain⟨m,hm⟩:=hx.choose_spec
  have h1:=Bef (Nat.le_max_left n m) hn
  have h2:=Bef (Nat.le_max_right n m) hm
  rw[h1] at h2
  exact h2.symm
theorem Bu (f:St→Option (Out×St)) (lv:List Nat) (st:St):Bg f lv st=(match f ⟨st.env.keep lv,st.hp⟩ with
  |some (.normal,st')=>Bg f lv st'
  |r=>r):=by
 cases hf:f ⟨st.env.keep lv,st.hp⟩ with
 |none=>
  cases he:Bg f lv st with
  |none=>rfl
  |some r=>
   obtain⟨n,hn⟩:=Jp.1 he
   cases n<;>simp[Jd,hf] at hn
 |some p=>
  obtain⟨o,s⟩:=p
  cases o with
  |normal=>
   simp only
   cases he:Bg f lv s with
   |none=>
    cases he':Bg f lv st with
    |none=>rfl
    |some r=>
     obtain⟨n,hn⟩:=Jp.1 he'
     cases n with
     |zero=>simp[Jd] at hn
     |succ n=>
      simp only[Jd,hf] at hn
      have:=Jp.2 ⟨n,hn⟩
      rw[he] at this
      simp at this
   |some r=>
    obtain⟨n,hn⟩:=Jp.1 he
    exact Jp.2 ⟨n+1,by simp only[Jd,hf];exact hn⟩
  |exit id=>exact Jp.2 ⟨1,by simp only[Jd,hf]⟩
  |ret=>exact Jp.2 ⟨1,by simp only[Jd,hf]⟩
theorem Bdd:B04 Bg:=fun _ _ _ _ h=>Jp.1 h
def CLe (cl cl':Fe):Prop:=∀k args H r,cl k args H=some r→cl' k args H=some r
section
variable {cl cl':Fe} (hle:CLe cl cl') {G:Gx} {n0:Bn}
theorem Bc5 {k:Nat} {args:List V} {v:V} (hle:CLe cl cl') (h:Be cl k args=some v):Be cl' k args=some v:=
 Bb fun H=>hle _ _ _ _ (Dp h H)
theorem Bb7 {k:Nat} {args:List V} {v:V} (hle:CLe cl cl') (h:Gf cl k args=some v):Gf cl' k args=some v:=
 Jk fun H=>by
  obtain⟨v1,H2,h1,h2,h3⟩:=Po h H
  exact⟨v1,H2,hle _ _ _ _ h1,h2,h3⟩
theorem Wi {k:Nat} {args:List V} {v:V} (hle:CLe cl cl') (hn:Be cl k args=none) (h:Gf cl k args=some v):Be cl' k args=none:=by
 cases hp:Be cl' k args with
 |none=>rfl
 |some u=>
  exfalso
  have:Be cl k args=some u:=Bb fun H=>by
   obtain⟨v1,H2,h1,_,_⟩:=Po h H
   have h2:=hle _ _ _ _ h1
   rw[Dp hp H] at h2
   rw[h1,←h2]
  rw[hn] at this
  simp at this
theorem Bde (hle:CLe cl cl') {env:Env} {H:Hp} {op:AOp} {r:V×Hp} (h:Cg cl G n0 env H op=some r):Cg cl' G n0 env H op=some r:=by
 cases op<;>try exact h
 case call f ags fr=>
  simp only[Cg] at h⊢
  split at h
  ·split at h
   ·split at h
    ·rename_i hr
     rw[hle _ _ _ _ hr]
     exact h
    ·simp at h
   ·simp at h
  ·simp at h
 case pcall f ags=>
  simp only[Cg] at h⊢
  split at h
  ·split at h
   ·split at h
    ·rename_i hr
     rw[Bc5 hle hr]
     exact h
    ·rename_i hn
     split at h
     ·rename_i hr
      rw[Wi hle hn hr,Bb7 hle hr]
      exact h
     ·simp at h
   ·simp at h
  ·simp at h
theorem Sj (hle:CLe cl cl') {o:AOper} {st st':St} (h:Fw cl G n0 o st=some st'):Fw cl' G n0 o st=some st':=by
 obtain⟨v,H,ha,rfl⟩:=G7 h
 refine Qv ?_
 unfold Jt at ha⊢
 split at ha
 ·exact Bde hle ha
 ·split at ha
  ·rename_i want _ _ b _
   cases hb: (b==want)<;>simp only[hb,cond_true,cond_false] at ha⊢
   ·exact ha
   ·exact Bde hle ha
  ·exact ha
  ·simp at ha
theorem Ba1 (hle:CLe cl cl'): ∀ (os:List AOper) {st st':St},Pw cl G n0 os st=some st'→Pw cl' G n0 os st=some st'
 | [],_,_,h=>h
 |o::os,st,st',h=>by
  simp only[Pw] at h⊢
  split at h
  ·rename_i s1 h1
   rw[Sj hle h1]
   exact Ba1 hle os h
  ·simp at h
theorem Ba2 (hle:CLe cl cl'): ∀ (L:List (Bool×AOper)) {st st':St},evX cl G n0 L st=some st'→evX cl' G n0 L st=some st'
 | [],_,_,h=>h
 | (true,o)::L,st,st',h=>by
  simp only[evX] at h⊢
  split at h
  ·rename_i s1 h1
   rw[Sj hle h1]
   exact Ba2 hle L h
  ·simp at h
 | (false,o)::L,st,st',h=>by
  simp only[evX] at h⊢
  split at h
  ·rename_i s1 h1
   rw[Sj hle h1]
   split at h
   ·rename_i ha
    simp only[if_pos ha]
    exact Ba2 hle L h
   ·simp at h
  ·simp at h
theorem Zm {f f':St→Option (Out×St)} (hf: ∀st r,f st=some r→f' st=some r) {lv:List Nat} : ∀ {n:Nat} {st:St} {r:Out×St},Jd f lv n st=some r→Jd f' lv n st=some r
 |0,_,_,h=>by simp[Jd] at h
 |n+1,st,r,h=>by
  rw[Jd] at h⊢
  cases hp:f ⟨st.env.keep lv,st.hp⟩ with
  |none=>rw[hp] at h;simp at h
  |some p=>
   obtain⟨o,s⟩:=p
   rw[hp] at h
   rw[hf _ _ hp]
   cases o with
   |normal=>exact Zm hf h
   |exit id=>exact h
   |ret=>exact h
theorem Bgr (hle:CLe cl cl'): ∀ (ac:ACode) {n0:Bn} {st:St} {r:Out×St},Bp cl G n0 Bg ac st=some r→Bp cl' G n0 Bg ac st=some r:=by
 intro ac
 induction ac with
 |skip=>intro n0 st r h;exact h
 |reg d os=>
  intro n0 st r h
  simp only[Bp] at h⊢
  split at h
  ·rename_i s1 h1
   rw[Ba1 hle os h1];exact h
  ·simp at h
 |regx L=>
  intro n0 st r h
  simp only[Bp] at h⊢
  split at h
  ·rename_i s1 h1
   rw[Ba2 hle L h1];exact h
  ·simp at h
 |seq x lv y ihx ihy=>
  intro n0 st r h
  simp only[Bp] at h⊢
  cases hx:Bp cl G n0 Bg x st with
  |none=>rw[hx] at h;simp at h
  |some p=>
   obtain⟨o,s⟩:=p
   rw[hx] at h
   rw[ihx hx]
   cases o with
   |normal=>exact ihy h
   |exit id=>exact h
   |ret=>exact h
 |cond c x y ihx ihy=>
  intro n0 st r h
  simp only[Bp] at h⊢
  split at h
  ·rename_i t ht
   cases t with
   |true=>exact ihx h
   |false=>exact ihy h
  ·simp at h
 |block id x ih=>
  intro n0 st r h
  simp only[Bp] at h⊢
  cases hx:Bp cl G n0 Bg x st with
  |none=>rw[hx] at h;simp at h
  |some p=>
   rw[hx] at h
   rw[ih hx]
   exact h
 |loop lv x ih=>
  intro n0 st r h
  simp only[Bp] at h⊢
  obtain⟨n,hn⟩:=Jp.1 h
  exact Jp.2 ⟨n,Zm (fun st r hh=>ih hh) hn⟩
 |scope x ih=>intro n0 st r h;exact ih h
 |trim lv x ih=>
  intro n0 st r h
  simp only[Bp] at h⊢
  cases hx:Bp cl G ⟨n0.n,Bc st.hp::n0.ts⟩ Bg x st with
  |none=>rw[hx] at h;simp at h
  |some p=>
   obtain⟨o,s⟩:=p
   rw[hx] at h
   rw[ih hx]
   exact h
 |frz ts x ih=>
  intro n0 st r h
  simp only[Bp] at h⊢
  split at h
  ·rename_i hf
   exact ih h
  ·simp at h
 |exit id=>intro n0 st r h;exact h
 |ret=>intro n0 st r h;exact h
theorem Bgq (hle:CLe cl cl') {fn:AFunc} {args:List V} {H:Hp} {r:V×Hp} (h:Cs cl G Bg fn args H=some r):Cs cl' G Bg fn args H=some r:=by
 unfold Cs at h⊢
 split at h
 ·rename_i hl
  rw[if_pos hl]
  cases hx:Bp cl G (Bc H) Bg fn.body ⟨Qs 0 args,H⟩ with
  |none=>rw[hx] at h;simp at h
  |some p=>rw[hx] at h;rw[Bgr hle _ hx];exact h
 ·simp at h
end
noncomputable def Qe (R:Prg) (cl:Fe):Fe:=fun f args H=>
 match R.prim f with
 |some p=>p args H
 |none=>
  match R.fns f with
  |some fn=>Cs cl R.glob Bg fn args H
  |none=>none
theorem Zf {R:Prg} {cl cl':Fe} (hle:CLe cl cl'):CLe (Qe R cl) (Qe R cl'):=by
 intro k args H r h
 unfold Qe at h⊢
 split at h
 ·exact h
 ·split at h
  ·exact Bgq hle h
  ·simp at h
abbrev Bl2:=Nat→List V→Hp→V×Hp→Prop
def Bdb (cl:Fe) (X:Bl2):Prop:=∀k args H r,cl k args H=some r→X k args H r
def By6 (R:Prg) (X:Bl2):Prop:=∀cl,Bdb cl X→Bdb (Qe R cl) X
def Pe (R:Prg):Bl2:=fun k args H r=> ∀X,By6 R X→X k args H r
theorem U9 (R:Prg):By6 R (Pe R):=fun cl hcl k args H r h X hX=>hX cl (fun k args H r h=>hcl k args H r h X hX) k args H r h
theorem Bbm {R:Prg} {X:Bl2} (hX:By6 R X) {k:Nat} {args:List V} {H:Hp} {r:V×Hp} (h:Pe R k args H r):X k args H r:=h X hX
theorem Bj5 {R:Prg} {k:Nat} {args:List V} {H:Hp} {r:V×Hp} (h:Pe R k args H r): ∃cl,Bdb cl (Pe R)∧Qe R cl k args H=some r:=by
 refine Bbm (X:=fun k args H r=>Pe R k args H r∧∃cl,Bdb cl (Pe R)∧Qe R cl k args H=some r) ?_ h|>.2
 intro cl hcl k args H r hr
 have hu:Bdb cl (Pe R):=fun k args H r h=> (hcl k args H r h).1
 exact⟨U9 R cl hu k args H r hr,cl,hu,hr⟩
open Classical in
noncomputable def Bvf (c d:Fe):Fe:=fun k args H=>match c k args H with|some r=>some r|none=>d k args H
theorem Boj {R:Prg} {k:Nat} {args:List V} {H:Hp} {r:V×Hp} (h:Pe R k args H r): ∀r',Pe R k args H r'→r'=r:=by
 refine(Bbm (X:=fun k args H r=>Pe R k args H r∧∀r',Pe R k args H r'→r'=r) ?_ h).2
 intro cl hcl k args H r hr
 have hu:Bdb cl (Pe R):=fun k args H r h=> (hcl k args H r h).1
 refine⟨U9 R cl hu k args H r hr,fun r' hr'=> ?_⟩
 obtain⟨cl',hu',hs'⟩:=Bj5 hr'
 have h1:CLe cl (Bvf cl cl'):=fun k args H r h=>by simp only[Bvf,h]
 have h2:CLe cl' (Bvf cl cl'):=fun k args H r h=>by
  simp only[Bvf]
  cases hc:cl k args H with
  |none=>exact h
  |some r2=>
   have:=(hcl k args H r2 hc).2 r (hu' k args H r h)
   simp only;rw[this]
 have e1:=Zf h1 k args H r hr
 have e2:=Zf h2 k args H r' hs'
 rw[e1] at e2
 exact(Option.some.inj e2).symm
open Classical in
noncomputable def ev (R:Prg):Fe:=fun k args H=>if h: ∃r,Pe R k args H r then some h.choose else none
theorem Bjy {R:Prg} {k:Nat} {args:List V} {H:Hp} {r:V×Hp} :ev R k args H=some r↔Pe R k args H r:=by
 unfold ev
 constructor
 ·intro h
  split at h
  ·rename_i hx
   simp only[Option.some.injEq] at h
   rw[←h];exact hx.choose_spec
  ·simp at h
 ·intro h
  have hx: ∃r,Pe R k args H r:=⟨r,h⟩
  rw[dif_pos hx,Boj h _ hx.choose_spec]
theorem Byj {R:Prg} {k:Nat} {args:List V} {H:Hp} {r:V×Hp} (h:Qe R (ev R) k args H=some r):ev R k args H=some r:=
 Bjy.2 (U9 R (ev R) (fun _ _ _ _ h=>Bjy.1 h) k args H r h)
theorem Bh {R:Prg} {k:Nat} {fn:AFunc} (hp:R.prim k=none) (hf:R.fns k=some fn) {args:List V} {H:Hp} {r:V×Hp} (h:Cs (ev R) R.glob Bg fn args H=some r):ev R k args H=some r:=by
 refine Byj ?_
 unfold Qe
 rw[hp,hf]
 exact h
theorem Bv4 {R:Prg} {k:Nat} {p:List V→Hp→Option (V×Hp)} (hp:R.prim k=some p) {args:List V} {H:Hp} {r:V×Hp} (h:p args H=some r):ev R k args H=some r:=by
 refine Byj ?_
 unfold Qe
 rw[hp]
 exact h
def Nk (P:Program) (G:Gx) (k:Nat) (args:List V) (H:Hp) (r:V×Hp):Prop:=FnOk P k∧
  ∀ (w:World) (pl:Pl) (Bd:Nat→Prop) (us:Array Value),HR w pl Bd H→GR G w (Bj pl H)→RVs w (Bj pl H) pl (Bc H) args us→
   Calls P k us w fun e w'=> ∃u pl',e= .returned u∧Fin w pl Bd H r.1 r.2 u w' pl'
def Bo (P:Program) (fn:Func) (af:AFunc):Bool:=
 (match fn.body with|some c=>F7 P fn.ntmps c af.body|none=>false) &&Tg P af.res fn.results.toList&& !(fn.name== "runtime.NumGoroutine")
structure PrgOk (P:Program) (R:Prg):Prop where
 mixed:P.follows .mixedOrders=true
 fns: ∀k af,R.fns k=some af→∃fn,P.funcs[k]? =some fn∧Bo P fn af=true
 prims: ∀k p,R.prim k=some p→∀args H r,p args H=some r→Nk P R.glob k args H r
theorem Bbf: ∀ (args:List V) (k t:Nat),(Qs k args).get t=if k≤t∧t<k+args.length then args.getD (t - k) .any else .any
 | [],k,t=>by
  have: ¬ (k≤t∧t<k+0):=by omega
  simp[Qs,Env.get]
 |v::args,k,t=>by
  simp only[Qs,Env.get]
  cases hb:Nat.beq k t with
  |true=>
   have:=Nat.eq_of_beq_eq_true hb
   subst this
   simp
  |false=>
   have hne:k≠t:=fun he=>by subst he;simp at hb
   rw[cond_false,Bbf args (k+1) t]
   by_cases h:k+1≤t∧t<k+1+args.length
   ·rw[if_pos h,if_pos ⟨by omega,by simp;omega⟩]
    have:t - k=(t - (k+1))+1:=by omega
    rw[this];rfl
   ·rw[if_neg h,if_neg (by simp;omega)]
theorem Bwv {w:World} {O:Jn} {pl:Pl} {n:Nat} {args:List V} {us:Array Value} (h:RVs w O pl n args us) (m:Nat):RE w O pl n (Qs 0 args) { tmps:=us++Array.replicate m undef,defers:=[] } :=by
 intro t ht
 rw[Bbf] at ht⊢
 by_cases hl:0≤t∧t<0+args.length
 ·rw[if_pos hl] at ht⊢
  have h1:=h.1
  have htl:t<args.length:=by omega
  have e: (us++Array.replicate m undef).getD t undef=us.getD t undef:=by
   rw[Array.getD_eq_getD_getElem?,Array.getD_eq_getD_getElem?,Array.getElem?_append_left (by omega)]
  simp only[Nat.sub_zero]
  rw[e]
  exact h.2 t htl
 ·rw[if_neg hl] at ht
  simp[V.ok] at ht
theorem Bj7 {w:World} {pl:Pl} {Bd:Nat→Prop} {H:Hp} (hH:HR w pl Bd H) {n:Nat} (hn:Bd n) {vs ws:List V} (h:Gq (fzV n H) vs=some ws) {us:List Value} (hu: ∀i,i<vs.length→(vs.getD i .any).ok=true→RV w (Bj pl H) pl (Bc H) (vs.getD i .any) (us.getD i undef)):
  ws.length=vs.length∧∀i,i<ws.length→RV w (Bj pl (Cx H n)) pl n (ws.getD i .any) (us.getD i undef):=by
 obtain⟨h1,h2⟩:=Gp (d:=V.any) (d':=V.any) h
 refine⟨h1,fun i hi=> ?_⟩
 have:=h2 i (by omega)
 exact Bj0 hH hn this (hu i (by omega) (Bod this))
theorem Bjj {P:Program} {R:Prg} (hR:PrgOk P R) {cl:Fe} (hcl:Gd P R.glob cl) {k:Nat} {af:AFunc} (hf:R.fns k=some af) {args:List V} {H:Hp} {r:V×Hp} (h:Cs cl R.glob Bg af args H=some r):Nk P R.glob k args H r:=by
 obtain⟨fn,hfn,hck⟩:=hR.fns k af hf
 unfold Bo at hck
 rw[Bool.and_eq_true,Bool.and_eq_true] at hck
 obtain⟨⟨hbody,hres⟩,hname⟩:=hck
 cases hb:fn.body with
 |none=>rw[hb] at hbody;simp at hbody
 |some c=>
  rw[hb] at hbody
  simp only at hbody
  refine⟨⟨fn,hfn,by simpa using hname,by rw[hb];rfl⟩,fun w pl Bd us hH hG hargs=> ?_⟩
  refine calls_of_wp hfn hb ?_
  unfold Cs at h
  split at h
  ·rename_i hnp
   have hstart:Rel R.glob (fun m=>Bd m∨m=Bc H) w (Bj pl H) pl (Bc H) fn.ntmps ⟨Qs 0 args,H⟩ { tmps:=us++Array.replicate (fn.ntmps - us.size) undef,defers:=[] } w:=
    ⟨⟨pl,hH.enter,Bwv hargs _,hG,Ext.refl _ _,PlExt.refl _ _,Nat.le_refl _⟩,by simp;omega,rfl⟩
   have hn0:Rb (fun m=>Bd m∨m=Bc H) (Bc H:Nat):=fun m hm=>by
    rcases hm with hm|rfl
    ·exact .inl (hH.le m hm)
    ·exact .inl (Nat.le_refl _)
   have leaving: ∀ (st:St),Bg8 af (Bc H) st=some r→∀ (a':Act) (w':World),Rel R.glob (fun m=>Bd m∨m=Bc H) w (Bj pl H) pl (Bc H) fn.ntmps st a' w'→
     a'.defers=[]∧∃v,(results fn a'.tmps).run P w'= .ok v w'∧∃u pl',Ending.returned v= .returned u∧Fin w pl Bd H r.1 r.2 u w' pl':=by
    intro st hl a' w' hRel
    obtain⟨⟨pl',h1,h2,h3,h4,h5,h6⟩,h7,h8⟩:=hRel
    refine⟨h8, ?_⟩
    unfold Bg8 at hl
    split at hl
    ·rename_i vs hvs
     obtain⟨xs,l1,l2,l3,l4⟩:=Bk6 h1 h2 af.res fn.results.toList vs hres hvs
     refine⟨Bci xs.toArray,Bie l1 l3,Bci xs.toArray, ?_⟩
     split at hl
     ·split at hl
      ·rename_i ws H1 H2 hown
       simp only[Option.some.injEq] at hl
       subst hl
       have hinv:=OwnInv.start (Bd:=Bd) h1 (Or.inr rfl) (fun m hm=> ⟨Or.inl hm,hH.le m hm⟩)
       obtain⟨plb',t,lw,rw'⟩:=Bwj h1 vs xs st.hp pl' _ ws H1 H2 hinv hown (by omega) l4
       have hE:=t.inv.ext
       refine⟨plb',rfl,t.inv.hr, ?_,h4.trans hE,h5.trans (t.ple.le ?_),Nat.le_trans ?_ t.le⟩
       ·exact Bs2 (by omega) fun i hi=> (rw' i hi).mono hE (PlExt.refl _ _) (Nat.le_refl _)
       ·rw[F9 h6];omega
       ·rw[F9 h6];omega
      ·simp at hl
     ·split at hl
      ·rename_i ws hws
       simp only[Option.some.injEq] at hl
       subst hl
       obtain⟨lw,rw'⟩:=Bj7 h1 (Or.inr rfl) hws (us:=xs) l4
       obtain⟨t1,t2⟩:=h1.take (Bc H) (Or.inr rfl) (Bd':=Bd) (fun m hm=> ⟨Or.inl hm,hH.le m hm⟩)
       refine⟨pl',rfl,t1, ?_,h4.trans t2,h5,by rw[F9 h6];omega⟩
       rw[F9 h6]
       exact Bs2 (by omega) rw'
      ·simp at hl
    ·simp at hl
   split at h
   ·rename_i st hc
    exact Baw hR.mixed hcl Bdd af.body c hbody hn0 _ .normal st hc _ w _ hstart fun a' w' hRel=>leaving st h a' w' hRel
   ·rename_i st hc
    exact Baw hR.mixed hcl Bdd af.body c hbody hn0 _ .ret st hc _ w _ hstart fun a' w' hRel=>leaving st h a' w' hRel
   ·simp at h
  ·simp at h
theorem Brk {P:Program} {R:Prg} (hR:PrgOk P R) {k:Nat} {args:List V} {H:Hp} {r:V×Hp} (h:ev R k args H=some r):Nk P R.glob k args H r:=by
 refine Bbm (X:=Nk P R.glob) ?_ (Bjy.1 h)
 intro cl hcl k args H r hr
 have hcs:Gd P R.glob cl:=fun k args H v H' hh=>hcl k args H (v,H') hh
 unfold Qe at hr
 split at hr
 ·rename_i p hp
  exact hR.prims k p hp args H r hr
 ·split at hr
  ·rename_i af haf
   exact Bjj hR hcs haf hr
  ·simp at hr
theorem Bve (a b:Nat):Nat.beq a b=decide (a=b):=by
 cases h:Nat.beq a b with
 |true=>simp[Nat.eq_of_beq_eq_true h]
 |false=>symm;rw[decide_eq_false_iff_not];intro e;subst e;simp at h
def Brr:List (Nat×AFunc)→Nat→Option AFunc
 | [],_=>none
 | (k,f)::r,n=>bif Nat.beq k n then some f else Brr r n
theorem Bgy: ∀ {t:List (Nat×AFunc)} {k:Nat} {f:AFunc},Brr t k=some f→(k,f)∈t
 | [],_,_,h=>by simp[Brr] at h
 | (j,g)::r,k,f,h=>by
  simp only[Brr] at h
  cases hb:Nat.beq j k with
  |true=>
   rw[hb] at h
   simp only[cond_true,Option.some.injEq] at h
   subst h
   rw[Nat.eq_of_beq_eq_true hb]
   simp
  |false=>
   rw[hb] at h
   exact List.mem_cons_of_mem _ (Bgy h)
theorem Bq6 {P:Program} {R:Prg} (hR:PrgOk P R) {k:Nat} {xs:List D} {x:D} (h:ev R k (xs.map .d) []=some (.d x,[])) {w:World} {us:Array Value} (hG:GR R.glob w (fun _=>False)) (hl:us.size=xs.length) (hu: ∀i,i<xs.length→RD w (fun _=>False) (xs.getD i .nilp) (us.getD i undef)):
  Calls P k us w fun e w'=> ∃u,e= .returned u∧RD w' (fun _=>False) x u∧RowKit.Below w.heap.size w w':=by
 have E0:Ext w (fun _=>False) w (Bj (fun _ _=>none) []):=⟨rfl,rfl,rfl,Nat.le_refl _,fun b _ _=> ⟨rfl,Mg _ b⟩⟩
 refine((Brk hR h).2 w (fun _ _=>none) (fun _=>False) us (HR.none w _) (hG.mono E0) ⟨by simpa using hl,fun i hi=> ?_⟩).mono fun e w' he=> ?_
 ·rw[Dg xs i (by simpa using hi)]
  exact .d _ _ ((hu i (by simpa using hi)).mono E0)
 ·obtain⟨u,pl',rfl,hf⟩:=he
  exact⟨u,rfl,hf.rv.dd.mono ⟨rfl,rfl,rfl,Nat.le_refl _,fun b _ _=> ⟨rfl,fun h=>h⟩⟩,hf.ext.os,hf.ext.tape,hf.ext.output,hf.ext.size,fun b hb=> (hf.ext.keep b hb (Mg _ b)).1⟩
theorem Bjk {P:Program} {R:Prg} (hR:PrgOk P R) {k:Nat} {xs:List D} {b:Bool} (h:ev R k (xs.map .d) []=some (.d (.bool b),[])) {w:World} {us:Array Value} (hG:GR R.glob w (fun _=>False)) (hl:us.size=xs.length) (hu: ∀i,i<xs.length→RD w (fun _=>False) (xs.getD i .nilp) (us.getD i undef)):
  Calls P k us w fun e w'=>e= .returned (.bool b)∧RowKit.Below w.heap.size w w':=by
 refine(Bq6 hR h hG hl hu).mono fun e w' he=> ?_
 obtain⟨u,rfl,hd,hb⟩:=he
 exact⟨by rw[hd.bool_eq],hb⟩
theorem Jq (H:Hp):Cx H (Bc H)=H:=by simp[Cx,Bc]
theorem Fa (H:Hp) (o:Obj):Cx (Bt H o) (Bc H)=H:=by simp[Cx,Bc,Bt]
theorem Qx (H:Hp) (o o':Obj):Bz (Bt H o) (Bc H) o'=Bt H o':=by
 induction H with
 |nil=>rfl
 |cons a H ih=>exact congrArg (List.cons a) ih
theorem Cy (H:Hp) (g e:Nat) (xs:List V):Cw (Bt H (.row g e xs)) (Bc H) g=some (e,xs):=by
 simp[Cw,Dr]
theorem Bbu {n d:Nat} {H:Hp} : ∀ (ds:List D),Gq (fz n d H) (ds.map .d)=some ds
 | []=>rfl
 |x::ds=>by
  have:fz n d H (.d x)=some x:=by cases d<;>rfl
  simp only[List.map_cons,Gq,this,Bbu ds]
theorem Bro (n:Nat) (H:Hp) (x:D):Ws n H (.d x)=some (.d x):=rfl
theorem Yu {H:Hp} {n d r g i k e:Nat} {xs:List V} (hr: ¬r<n) (h:Cw H r g=some (e,xs)) (hk:i+k≤xs.length) {ys:List D} (hm:Gq (fz n d H) ((xs.drop i).take k)=some ys):fz n (d+1) H (.slc r g i k)=some (.vals e ys):=by
 rw[fz,if_neg hr,h]
 simp only[hk,if_true,hm]
theorem Be8 (H:Hp) (g e:Nat) (ds:List D) (k:Nat) (hk:k≤ds.length):Ws (Bc H) (Bt H (.row g e (ds.map .d))) (.slc (Bc H) g 0 k)=some (.d (.vals e (ds.take k))):=by
 have h: ((ds.map V.d).drop 0).take k=(ds.take k).map V.d:=by rw[List.drop_zero,List.map_take]
 have:=Yu (H:=Bt H (.row g e (ds.map .d))) (n:=Bc H) (d:=7) (r:=Bc H) (g:=g) (i:=0) (k:=k) (by omega) (Cy H g e _) (by simpa using hk) (by rw[h];exact Bbu _)
 show(if Bc H<Bc H then _ else(match fz (Bc H) M7 _ (.slc (Bc H) g 0 k) with|some x=>some (V.d x) |none=>none))=_
 rw[if_neg (by omega),show M7=7+1 from rfl,this]
theorem Bv9 (H:Hp) (g e:Nat) (ds:List D) (k:Nat) (hk:k=ds.length):Ws (Bc H) (Bt H (.row g e (ds.map .d))) (.slc (Bc H) g 0 k)=some (.d (.vals e ds)):=by
 subst hk
 rw[Be8 H g e ds _ (Nat.le_refl _),List.take_length]
def Fu (p:Nat→Bool):Nat→Nat→Option Nat
 |0,_=>none
 |n+1,i=>if p i=true then some i else Fu p n (i+1)
theorem Q8 {p:Nat→Bool} : ∀ {n i j:Nat},Fu p n i=some j→i≤j∧j<i+n∧p j=true∧∀k,i≤k→k<j→p k=false
 |0,i,j,h=>by simp[Fu] at h
 |n+1,i,j,h=>by
  simp only[Fu] at h
  split at h
  ·rename_i hp
   simp only[Option.some.injEq] at h;subst h
   exact⟨Nat.le_refl _,by omega,hp,fun k h1 h2=>by omega⟩
  ·rename_i hp
   obtain⟨h1,h2,h3,h4⟩:=Q8 h
   refine⟨by omega,by omega,h3,fun k k1 k2=> ?_⟩
   by_cases hk:k=i
   ·subst hk;simpa using hp
   ·exact h4 k (by omega) k2
theorem Uf {p:Nat→Bool} : ∀ {n i:Nat},Fu p n i=none→∀k,i≤k→k<i+n→p k=false
 |0,i,_,k,h1,h2=>by omega
 |n+1,i,h,k,h1,h2=>by
  simp only[Fu] at h
  split at h
  ·simp at h
  ·rename_i hp
   by_cases hk:k=i
   ·subst hk;simpa using hp
   ·exact Uf h k (by omega) (by omega)
abbrev Bq:=List UInt8
abbrev Bf (xs:List Bq):D:= .vals 1 (xs.map .str)
theorem Dj (xs:List Bq) (i:Nat) (hi:i<xs.length): (xs.map D.str).getD i .nilp= .str (xs.getD i []):=by
 simp[List.getD_eq_getElem?_getD,hi]
def B6i (xs:List Bq) (i:Nat):List V:=(xs.take i).map (fun t=>V.d (.str t))++List.replicate (xs.length - i) (V.d (.str []))
def Bqo (k:IntKind) (w:World) (a:Option Addr) (len cap:Nat) (zs:List Int):Prop:=
 (a=none∧len=0∧cap=0∧zs=[])∨
 ∃x,a=some x∧len≤cap∧cap≤maxLen∧zs.length=cap∧(∀i,i<zs.length→w.cell? (x.add i)=some (.int k (zs.getD i 0)))∧∀n∈zs,(Lit.int k n).wf=true
theorem Bny {w:World} {x:Addr} {v:Value} (h:w.cell? x=some v):x.spot=none∧x.block<w.heap.size:=by
 unfold World.cell? at h
 split at h
 ·rename_i hb
  split at h
  ·simp at h
  ·rename_i hs
   exact⟨by simpa using hs,(Array.getElem?_eq_some_iff.1 hb).1⟩
 ·simp at h
theorem Bnr (b o i:Nat): (⟨b,o,none⟩:Addr).add i=⟨b,o+i,none⟩:=by
 unfold Addr.add
 split
 ·rename_i h;subst h;rfl
 ·rfl
theorem Bsl {w:World} {k:IntKind} {a:Option Addr} {len cap:Nat} {zs:List Int} (h:Bqo k w a len cap zs):RD w (fun _=>False) (.vals 1 ((zs.take len).map (.int k))) (.slice a len cap):=by
 rcases h with⟨rfl,rfl,rfl,rfl⟩ | ⟨x,rfl,hl,hm,hz,hx,hw⟩
 ·exact .vals0 _ _ _
 ·by_cases h0:len=0
  ·subst h0
   exact .vals0 _ _ _
  ·have hx0:=hx 0 (by omega)
   have ha0:x.add 0=x:=by simp[Addr.add]
   rw[ha0] at hx0
   obtain⟨hsp,hb⟩:=Bny hx0
   obtain⟨b,o,sp⟩:=x
   simp only at hsp hb
   subst hsp
   have Bc: ((zs.take len).map (D.int k)).length=len:=by simp;omega
   have Cf: ∀i,i<len→((zs.take len).map (D.int k)).getD i .nilp= .int k (zs.getD i 0):=by
    intro i hi
    have hi':i<zs.length:=by omega
    simp[List.getD_eq_getElem?_getD,hi,hi']
   have:=RD.vals (w:=w) (O:=fun _=>False) 1 ((zs.take len).map (D.int k)) b o cap (fun i _=> .int k (zs.getD i 0)) (by omega) (fun h=>h) hb (fun i hi=>by rw[Cf i (by omega)];rfl)
    (fun i j hi hj=>by
     obtain rfl:j=0:=by omega
     have:=hx i (by omega)
     rw[Bnr] at this
     simpa using this)
    (fun i j hi hj=>rfl)
    (fun i j hi hj=>by
     obtain rfl:j=0:=by omega
     rw[Cf i (by omega)]
     exact .int _ _)
   rw[Bc] at this
   exact this
theorem Bpf {w:World} {a:Option Addr} {len cap:Nat} {zs:List Int} (h:Bqo .u8 w a len cap zs): ∀i,0≤(zs.take len).getD i 0∧(zs.take len).getD i 0≤255:=by
 have hall: ∀n∈zs,0≤n∧n≤255:=by
  rcases h with⟨_,_,_,rfl⟩ | ⟨x,_,_,_,_,_,hw⟩
  ·intro n hn;simp at hn
  ·intro n hn
   have:=hw n hn
   have e1:IntKind.u8.min=0:=rfl
   have e2:IntKind.u8.max=255:=rfl
   simp only[Lit.wf,Bool.and_eq_true,decide_eq_true_eq,e1,e2] at this
   exact this
 intro i
 by_cases hi:i< (zs.take len).length
 ·rw[List.getD_eq_getElem?_getD,List.getElem?_eq_getElem hi]
  exact hall _ (List.mem_of_mem_take (List.getElem_mem hi))
 ·rw[List.getD_eq_getElem?_getD,List.getElem?_eq_none (by omega)]
  simp
theorem Np {H:Hp} {r:Nat} {o o':Obj} (h:r<Bc H):Bz (Bt H o) r o'=Bt (Bz H r o') o:=by
 induction H generalizing r with
 |nil=>simp[Bc] at h
 |cons a H ih=>
  cases r with
  |zero=>rfl
  |succ r=>exact congrArg (List.cons a) (ih (by simp[Bc] at h⊢;omega))
theorem Ky (H:Hp) (r:Nat) (o o':Obj):Bz (Bz H r o) r o'=Bz H r o':=by
 induction H generalizing r with
 |nil=>rfl
 |cons a H ih=>
  cases r with
  |zero=>rfl
  |succ r=>exact congrArg (List.cons a) (ih r)
end Go.Ev
