/- Lemmas (several texts in one). -/
import Derived.Test.YtpajcoanfkeibaaGreatDoorMDoKind1
set_option linter.unusedSimpArgs false
set_option linter.unusedVariables false
open Bool renaming and_eq_true → Cdv, and_eq_false_iff → Cd0, false_eq_true → Cdw
open Nat renaming eq_of_beq_eq_true → Cd6, mul_le_mul_right → Cd8, zero_add → Cd9, le_refl → Cd7
open List renaming map_cons → Cdd, getD_eq_getElem?_getD → Cda, getElem_mem → Cdr, length_map → Cdo, eq_nil_of_length_eq_zero → Cdk, all_eq_true → Cdl, map_nil → Cde, length_append → Cdi, getElem?_eq_getElem → Cdh, mem_append → Cdq
open Array renaming getD_eq_getD_getElem? → Cd3, getElem?_eq_getElem → Cd5, getElem?_eq_some_iff → Cd4
open Option renaming some.injEq → Cdt, getD_some → Cdu
open Prod renaming mk.injEq → Cd2
namespace Go.Ev
open Go
section
variable {P:Program} {cl:D6} {G:Gi} {w:World} {pl:Pl} {Bd:Nat→Prop} {H:Hp} {env:Env} {a:Act}
def Bg1 (w:World) (O:Gz) (pl:Pl) (m:Nat) (a:Act):Nat→List V→List (Nat×Operand)→Prop
 |_,[],[]=>True
 |k,v::vs,(i,y)::ps=>i=k∧RV w O pl m v (a.eval y)∧Bg1 w O pl m a (k+1) vs ps
 |_,_,_=>False
theorem Bf1 {O:Gz} {m:Nat} (hG:GR G w O) (hE:RE w O pl m env a): ∀ (qs:List AOpd) (ps:List (Nat×Operand)) (k:Nat),Nk k qs ps=true→(∀x∈qs,(Cw G env x).sto=true)→Bg1 w O pl m a k (qs.map (Cw G env)) ps
 | [],[],_,_,_=>trivial
 | [],_::_,_,h,_=>by simp[Nk] at h
 |_::_,[],_,h,_=>by simp[Nk] at h
 |x::qs,(i,y)::ps,k,h,hx=>by
  simp only[Nk,Cdv] at h
  obtain⟨⟨h1,h2⟩,h3⟩:=h
  exact⟨Cd6 h1,Cu h2 hG hE (Bmd (hx x (by simp))),Bf1 hG hE qs ps (k+1) h3 fun y hy=>hx y (by simp[hy])⟩
theorem Bnf {O:Gz} {m e:Nat} : ∀ (qs:List V) (ps:List (Nat×Operand)) (k:Nat) (us:Array Value),Bg1 w O pl m a k qs ps→
  (∀x∈qs,x.sto=true∧x.cells.length=e)→(k+qs.length)*e≤us.size→
  ∃us',Instr.fill (fun i=>some (i*e,e)) us (ps.map fun (i,x)=> (i,a.eval x))=some us'∧us'.size=us.size∧
   (∀i j,i<qs.length→j<e→RV w O pl m ((qs.getD i .any).cells.getD j .any) (us'.getD ((k+i)*e+j) undef)∧(us'.getD ((k+i)*e+j) undef).oneCell'=true)∧
   (∀n,n<k*e→us'.getD n undef=us.getD n undef)
 | [],[],k,us,_,_,_=> ⟨us,rfl,rfl,fun i j hi=>by simp at hi,fun _ _=>rfl⟩
 | [],_::_,_,_,h,_,_=>h.elim
 |_::_,[],_,_,h,_,_=>h.elim
 |x::qs,(i,y)::ps,k,us,h,hx,hl=>by
  obtain⟨h1,h2,h3⟩:=h
  subst h1
  obtain⟨hs,hc⟩:=hx x (by simp)
  have hv:=h2.cells hs
  have hvs:=hv.size
  simp only[List.length_cons] at hl
  have hfit:i*e+e≤us.size:=by
   have: (i+1)*e≤(i+(qs.length+1))*e:=Cd8 _ (by omega)
   rw[Nat.add_mul,Nat.one_mul] at this
   omega
  have hspec:=Bn9 (a.eval y).cells.toList us (i*e) 0 (by simp;omega)
  rw[←Bng] at hspec
  obtain⟨f1,f2⟩:=hspec
  obtain⟨us',g1,g2,g3,g4⟩:=Bnf qs ps (i+1) ((a.eval y).cells.zipIdx.foldl (fun cs (c,j)=>cs.setIfInBounds (i*e+j) c) us) h3 (fun x hx'=>hx x (by simp[hx'])) (by rw[f1];rw[show i+1+qs.length=i+(qs.length+1) by omega];exact hl)
  have hcond: ¬ (((a.eval y).cells.size≠e||i*e+(a.eval y).cells.size>us.size)=true):=by simp;omega
  refine⟨us', ?_,by rw[g2,f1],fun i' j hi hj=> ?_,fun n hn=> ?_⟩
  ·simp only[Cdd,Instr.fill]
   rw[if_neg (by simpa using hcond)]
   exact g1
  ·cases i' with
   |zero=>
    have hlt:i*e+j< (i+1)*e:=by rw[Nat.add_mul];omega
    rw[Nat.add_zero,g4 _ hlt,f2,if_pos (by simp;omega)]
    have:=hv.rel j (by omega)
    have h1:=hv.one j (by omega)
    simp only[List.getD_cons_zero,Nat.add_zero,Nat.add_sub_cancel_left]
    simp only[Cda,Array.getElem?_toList,Cd3] at this h1⊢
    exact⟨this,h1⟩
   |succ i'=>
    have:=g3 i' j (by simp at hi;omega) hj
    rw[show i+1+i'=i+(i'+1) by omega] at this
    simpa using this
  ·rw[g4 n (by rw[Nat.add_mul];omega),f2,if_neg (by omega)]
theorem Bc4 (hH:HR w pl Bd H) {o:Oper} {t n:Nat} {ps:Array (Nat×Operand)} (ho:o.op= .buildSlice t n ps) {e:Nat} {qs:List V}
  (hc: (match Gx P t with|some el=>Ma P el e&&Ml P el e|none=>false)=true) (hlit:Bg1 w (Bl pl H) pl (Bc H) a 0 qs ps.toList) (hn:n=qs.length) (hbig:n*e≤16777216) (he:0<e)
  (hall: ∀x∈qs,x.sto=true∧x.cells.length=e) {v:V} {H':Hp}
  (hv: (v= .slc (Bc H) 0 0 qs.length∧H'=Bp H (.row 0 e qs))∨∃xs,Gr qs=some xs∧v= .d (.vals e xs)∧H'=H):OpSim P o a w pl Bd H v H':=by
 split at hc
 ·rename_i el hel
  have hds:=Fw hel
  simp only[Cdv] at hc
  obtain⟨hsz,hz⟩:=hc
  obtain⟨iz,uz,hi,hu,hus,his⟩:=Rm hz
  let zs:Array Value:=(Array.range (n*e)).map (uz.cells[·% uz.cells.size]!)
  have hzs:zs.size=n*e:=by simp[zs]
  obtain⟨us,g1,g2,g3,_⟩:=Bnf (a:=a) qs ps.toList 0 zs hlit hall (by rw[Cd9,hzs,hn];exact Cd7 _)
  have h4: (ps.map fun (i,x)=> (i,a.eval x)).toList=ps.toList.map fun (i,x)=> (i,a.eval x):=by simp
  have hrun: (Instr.buildSlice t n (ps.map fun (i,x)=> (i,a.eval x))).run P w= .ok (.slice (some ⟨w.heap.size,0,none⟩) n n) { w with heap:=w.heap.push (.cells us el) } :=by
   have hbig': ¬ (n*e>2 ^ 24):=by omega
   simp only[Instr.buildSlice,Sem.run_bind,run_underlying hds,Result.andThen_ok,Jl hsz,if_neg hbig']
   by_cases h0:n*e=0
   ·have hn0:n=0:=by rcases Nat.mul_eq_zero.1 h0 with h|h<;>omega
    have hz0:zs=(Array.range (n*e)).map ((#[]:Array Value)[·% (#[]:Array Value).size]!):=by
     simp only[zs,h0,Array.range_zero'];simp
    simp only[h0,if_true]
    rw[h0] at hz0
    rw[Sem.run_bind,Sem.run_pure,Result.andThen_ok,←hz0,h4,g1]
    simp[newRow]
   ·simp only[if_neg h0,Sem.run_bind,zeroValue,typeInfo,run_program,hi,hu,Result.andThen_ok,Sem.run_pure,h4]
    have: (Array.range (n*e)).map (uz.cells[·% uz.cells.size]!)=zs:=rfl
    rw[this,g1]
    simp[newRow]
  have hus2:us.size=n*e:=by rw[g2,hzs]
  have Bc:qs.length=n:=by simp[hn]
  have hel': ∀i,i<qs.length→(qs.getD i .any).cells.length=e:=by
   intro i hi'
   have:=(hall _ (Cdr hi')).2
   simpa[Cda,hi'] using this
  rcases hv with⟨rfl,rfl⟩ | ⟨xs,hxs,rfl,rfl⟩
  ·obtain⟨pl',h1,h2,h3,h5⟩:=Xl hH (w':= { w with heap:=w.heap.push (.cells us el) }) (e:=e) (c:=n) (xs:=qs) rfl ⟨rfl,rfl,rfl⟩ hus2 (N7 _) (by omega) hel'
    (fun i j hi hj=>by have:=(g3 i j (by simpa using hi) hj).1;rwa[Cd9] at this)
    (fun i j hi hj=>by have:=(g3 i j (by simpa using hi) hj).2;rwa[Cd9] at this)
   refine .value (u:= .slice (some ⟨w.heap.size,0,none⟩) n n) (by simp only[execOp,ho];rw[Sem.run_bind,hrun];rfl) ⟨h2, ?_,h3,h5,by rw[Cf];omega⟩
   rw[←hn]
   exact Rz (by rw[Cf];omega) h1 (by omega) (by simp) (by omega)
  ·have hxe:=Kc hxs
   have hxl:xs.length=n:=by rw[←Bc,hxe];simp
   have hf:=Bsi hH (w':= { w with heap:=w.heap.push (.cells us el) }) (ob:= .cells us el) rfl ⟨rfl,rfl,rfl⟩ (v:= .d (.vals e xs)) (u:= .slice (some ⟨w.heap.size,0,none⟩) n n) (fun E=>by
    rw[←hxl]
    have hcell: ∀k,k<us.size→World.cell? { w with heap:=w.heap.push (.cells us el) } ⟨w.heap.size,k,none⟩=some (us.getD k undef):=fun k hk=>by
     simp[World.cell?,hk]
    refine .d _ _ (.vals e xs w.heap.size 0 xs.length (fun i j=>us.getD (i*e+j) undef) (Cd7 _) (Bdh hH) (by simp) (fun i hi=> ?_) (fun i j hi hj=> ?_) (fun i j hi hj=> ?_) (fun i j hi hj=> ?_))
    ·have:=hel' i (by omega)
     rw[hxe,Dh xs i hi,Lm] at this
     simpa using this
    ·rw[Cd9]
     exact hcell _ (by rw[hus2];exact Du (by omega) hj)
    ·have:=(g3 i j (by omega) hj).2
     rwa[Cd9] at this
    ·have h6:=(g3 i j (by omega) hj).1
     rw[Cd9,hxe,Dh xs i hi,Lm] at h6
     have hcl:j< (xs.getD i .nilp).cells.length:=by
      have:=hel' i (by omega)
      rw[hxe,Dh xs i hi,Lm] at this
      simp only[Cdo] at this;omega
     rw[Dh _ j hcl] at h6
     exact(h6.mono E (PlExt.refl _ _) (Cd7 _)).dd)
   exact .value (by simp only[execOp,ho];rw[Sem.run_bind,hrun];rfl) hf
 ·simp at hc
theorem Byn {O:Gz} {n:Nat} {v:V} {x:D} {u:Value} (h:Bjh v=some x) (hr:RV w O pl n v u):RD w O x u:=by
 cases v<;>simp[Bjh] at h
 ·subst h
  exact hr.dd
 ·subst h
  cases hr
  exact .vals0 _ _ _
theorem Zf: ∀ {vs:List V} {xs:List D},Bmf vs=some xs→xs.length=vs.length∧∀i,i<vs.length→Bjh (vs.getD i .any)=some (xs.getD i .nilp)
 | [],xs,h=>by simp only[Bmf,Cdt] at h;subst h;exact⟨rfl,fun i hi=>by simp at hi⟩
 |v::r,xs,h=>by
  simp only[Bmf] at h
  split at h
  ·rename_i x hx
   split at h
   ·rename_i ys hy
    simp only[Cdt] at h
    subst h
    obtain⟨h1,h2⟩:=Zf hy
    refine⟨by simp[h1],fun i hi=> ?_⟩
    cases i with
    |zero=>exact hx
    |succ i=>exact h2 i (by simpa using hi)
   ·simp at h
  ·simp at h
theorem B0s {O:Gz} {n:Nat} {v:V} {u:Value} (h:RV w O pl n v u):RV w O pl n (Us v) u:=by
 unfold Us
 split
 ·cases h
  exact .d _ _ (.vals0 _ _ _)
 ·rename_i cs
  split
  ·rename_i xs hxs
   obtain⟨h1,h2⟩:=Zf hxs
   cases h with
   |agg _ us hl hone hrr=>
    exact .d _ _ (.agg xs us (by omega) (fun i hi=>hone i (by omega)) fun i hi=>Byn (h2 i (by omega)) (hrr i (by omega)))
  ·exact h
 ·exact h
theorem Bwp {v:V} (h:v.sto=true): (Us v).sto=true:=by
 unfold Us
 split
 ·rfl
 ·split
  ·rfl
  ·exact h
 ·exact h
theorem Bop (v:V): (Us v).cells.length=v.cells.length:=by
 unfold Us
 split
 ·rfl
 ·split
  ·rename_i xs hxs
   have:=(Zf hxs).1
   simp[V.cells,this]
  ·rfl
 ·rfl
theorem Bh1 {O:Gz} {m:Nat} : ∀ (vs:List V) (ps:List (Nat×Operand)) (k:Nat),Bg1 w O pl m a k vs ps→Bg1 w O pl m a k (vs.map Us) ps
 | [],[],_,h=>h
 | [],_::_,_,h=>h.elim
 |_::_,[],_,h=>h.elim
 |v::vs,(i,y)::ps,k,h=> ⟨h.1,B0s h.2.1,Bh1 vs ps (k+1) h.2.2⟩
theorem Boa (hG:GR G w (Bl pl H)) (hH:HR w pl Bd H) (hE:RE w (Bl pl H) pl (Bc H) env a) {o:Oper} {t n:Nat} {ps:Array (Nat×Operand)} (ho:o.op= .buildSlice t n ps) {e:Nat} {qs:List AOpd}
  (hc: (match Gx P t with|some el=>Ma P el e&&Ml P el e|none=>false)=true) (hlit:Nk 0 qs ps.toList=true) (hn:n=qs.length) (hbig:n*e≤16777216) (he:0<e)
  (hall: ∀x∈qs,(Cw G env x).sto=true∧(Cw G env x).cells.length=e) {v:V} {H':Hp}
  (hv: (v= .slc (Bc H) 0 0 qs.length∧H'=Bp H (.row 0 e (qs.map (Cw G env))))∨∃xs,Gr ((qs.map (Cw G env)).map Us)=some xs∧v= .d (.vals e xs)∧H'=H):OpSim P o a w pl Bd H v H':=by
 rcases hv with hv| ⟨xs,hxs,rfl,rfl⟩
 ·refine Bc4 hH ho (qs:=qs.map (Cw G env)) hc (Bf1 hG hE qs _ 0 hlit fun x hx=> (hall x hx).1) (by simpa using hn) hbig he (fun x hx=> ?_) (.inl (by simpa using hv))
  obtain⟨y,hy,rfl⟩:=List.mem_map.1 hx
  exact hall y hy
 ·refine Bc4 hH ho (qs:=(qs.map (Cw G env)).map Us) hc (Bh1 _ _ 0 (Bf1 hG hE qs _ 0 hlit fun x hx=> (hall x hx).1)) (by simpa using hn) hbig he (fun x hx=> ?_) (.inr ⟨xs,hxs,rfl,rfl⟩)
  obtain⟨z,hz,rfl⟩:=List.mem_map.1 hx
  obtain⟨y,hy,rfl⟩:=List.mem_map.1 hz
  have:=hall y hy
  exact⟨Bwp this.1,by rw[Bop];exact this.2⟩
end
section
variable {P:Program} {cl:D6} {G:Gi} {w:World} {pl:Pl} {Bd:Nat→Prop} {H:Hp} {env:Env} {a:Act}
theorem Sy (n i:Nat) (z:V) (hi:i<n): (List.replicate n z).getD i .any=z:=by
 simp[Cda,hi]
theorem Bjb (hG:GR G w (Bl pl H)) (hH:HR w pl Bd H) (hE:RE w (Bl pl H) pl (Bc H) env a) {o:Oper} {t:Nat} {L C:Operand} (ho:o.op= .makeSlice t L C) {e b:Nat} {z:V} {l c:AOpd} (hl:Cb l L=true) (hc:Cb c C=true)
  (hck: (match Gx P t with|some el=>Ma P el e&&Nh P el z&& (match P.info? el with|some i=>Nat.beq i.bytes b|none=>false) &&decide (0<e) &&decide (0<b) |none=>false)=true)
  {n:Int} (hle:Cw G env l= .d (.int .i64 n)) (hce:Cw G env c= .d (.int .i64 n)) (h0:0≤n) (hroom:n*b≤(Ct:Int)) (hze:z.cells.length=e) (hzs:z.sto=true):
  OpSim P o a w pl Bd H (.slc (Bc H) 0 0 n.toNat) (Bp H (.row 0 e (List.replicate n.toNat z))):=by
 have hlv:=Cu hl hG hE (by rw[hle];rfl)
 have hcv:=Cu hc hG hE (by rw[hce];rfl)
 rw[hle] at hlv
 rw[hce] at hcv
 have hli:=hlv.dd.int_eq
 have hci:=hcv.dd.int_eq
 split at hck
 ·rename_i el hel
  simp only[Cdv,decide_eq_true_eq] at hck
  obtain⟨⟨⟨⟨k1,k2⟩,k3⟩,k4⟩,k5⟩:=hck
  have hds:=Fw hel
  obtain⟨iz,uz,hi,hu,hcst,his⟩:=M7 k2
  rw[hi] at k3
  have k3:=Cd6 k3
  have hzr:=(Q5 (w:=w) (O:=Bl pl H) (pl:=pl) (n:=Bc H) hcst).cells hzs
  have huz:=hzr.size
  have hbn: (iz.bytes:Int)*n≤281474976710656:=by rw[k3,Int.mul_comm];simp only[Ct] at hroom;omega
  have hn63:n≤9223372036854775807:=by
   have h1:n*1≤n*(b:Int):=Int.mul_le_mul_of_nonneg_left (by omega) h0
   simp only[Ct] at hroom
   omega
  have hrun:=run_make (P:=P) w t el iz uz hds hi hu .i64 .i64 n n h0 (Int.le_refl _) hbn hn63
  have hsz: (madeCells uz.cells (n.toNat*iz.size)).size=n.toNat*e:=by rw[size_madeCells,his,hze]
  have Cc: ∀i j,i<n.toNat→j<e→(madeCells uz.cells (n.toNat*iz.size)).getD (i*e+j) undef=uz.cells.getD j undef:=by
   intro i j hi' hj
   have hlt:i*e+j<n.toNat*iz.size:=by rw[his,hze];exact Du hi' hj
   have hju:j<uz.cells.size:=by omega
   simp only[madeCells,Cd3,Array.getElem?_map,Array.getElem?_range,hlt,if_true,Option.map_some,Cdu]
   rw[show uz.cells.size=e by omega,(Mt hj).2]
   simp[hju]
  obtain⟨pl',h1,h2,h3,h4⟩:=Xl hH (w':=w.alloc (.cells (madeCells uz.cells (n.toNat*iz.size)) el)) (e:=e) (c:=n.toNat) (xs:=List.replicate n.toNat z) rfl ⟨rfl,rfl,rfl⟩ hsz (N7 _) (by simp)
   (fun i hi'=>by rw[Sy _ _ _ (by simpa using hi')];exact hze)
   (fun i j hi' hj=>by
    have hi2:i<n.toNat:=by simpa using hi'
    rw[Sy _ _ _ hi2,Cc i j hi2 hj]
    exact hzr.rel j (by omega))
   (fun i j hi' hj=>by
    have hi2:i<n.toNat:=by simpa using hi'
    rw[Cc i j hi2 hj]
    exact hzr.one j (by omega))
  exact .value (by simp only[execOp,ho,hli,hci];rw[Sem.run_bind,hrun];rfl) ⟨h2,Rz (by rw[Cf];omega) h1 (by omega) (by simp) (by omega),h3,h4,by rw[Cf];omega⟩
 ·simp at hck
theorem Bek {mx:Bool} {x y z:V} (h:Bnk mx x y=some z): ∃k p q,x= .d (.int k p)∧y= .d (.int k q)∧z= .d (.int k (bif mx then(if q>p then q else p) else(if q<p then q else p))):=by
 unfold Bnk at h
 split at h
 ·split at h
  ·rename_i hk
   subst hk
   simp at h
   exact⟨_,_,_,rfl,rfl,by simpa using h.symm⟩
  ·simp at h
 ·simp at h
theorem Be3 {mx:Bool} {O:Gz} {m:Nat} : ∀ (ys:List V) (x z:V) (u:Value) (us:List Value),Xv mx x ys=some z→RV w O pl m x u→us.length=ys.length→(∀i,i<ys.length→RV w O pl m (ys.getD i .any) (us.getD i undef))→
  ∃r,(us.foldlM (bif mx then Builtin.max2 else Builtin.min2) u).run P w= .ok r w∧RV w O pl m z r
 | [],x,z,u,us,h,hx,hl,_=>by
  simp[Xv] at h;subst h
  have:us=[]:=Cdk (by simpa using hl)
  subst this
  exact⟨u,rfl,hx⟩
 |y::ys,x,z,u,us,h,hx,hl,hy=>by
  match us,hl with
  |v::us,hl=>
   simp only[Xv] at h
   split at h
   ·rename_i z1 hz1
    obtain⟨k,p,q,rfl,rfl,rfl⟩:=Bek hz1
    have hyv:=hy 0 (by simp)
    simp only[List.getD_cons_zero] at hyv
    have e1:=hx.dd.int_eq
    have e2:=hyv.dd.int_eq
    subst e1 e2
    obtain⟨r,hr1,hr2⟩:=Be3 ys _ z (.int k (bif mx then(if q>p then q else p) else(if q<p then q else p))) us h (.d _ _ (.int _ _)) (by simpa using hl) (fun i hi=>by have:=hy (i+1) (by simpa using hi);simpa using this)
    refine⟨r, ?_,hr2⟩
    rw[List.foldlM_cons,Sem.run_bind]
    cases mx
    ·have: (Builtin.min2 (.int k p) (.int k q)).run P w= .ok (.int k (if q<p then q else p)) w:=rfl
     simp only[cond_false,this,Result.andThen_ok] at hr1⊢
     exact hr1
    ·have: (Builtin.max2 (.int k p) (.int k q)).run P w= .ok (.int k (if q>p then q else p)) w:=rfl
     simp only[cond_true,this,Result.andThen_ok] at hr1⊢
     exact hr1
   ·simp at h
theorem Bax {O:Gz} {m:Nat} (hG:GR G w O) (hE:RE w O pl m env a): ∀ (xs:List AOpd) (ys:List Operand),Kr xs ys=true→ys.length=xs.length∧∀i,i<xs.length→((xs.map (Cw G env)).getD i .any).ok=true→RV w O pl m ((xs.map (Cw G env)).getD i .any) ((ys.map a.eval).getD i undef)
 | [],[],_=> ⟨rfl,fun i hi=>by simp at hi⟩
 | [],_::_,h=>by simp[Kr] at h
 |_::_,[],h=>by simp[Kr] at h
 |x::xs,y::ys,h=>by
  simp only[Kr,Cdv] at h
  obtain⟨h1,h2⟩:=Bax hG hE xs ys h.2
  refine⟨by simp[h1],fun i hi hk=> ?_⟩
  cases i with
  |zero=>exact Cu h.1 hG hE hk
  |succ i=>exact h2 i (by simpa using hi) hk
theorem Xw {mx:Bool} : ∀ (ys:List V) (x z:V),Xv mx x ys=some z→(ys≠[]→x.ok=true)∧∀i,i<ys.length→(ys.getD i .any).ok=true
 | [],_,_,_=> ⟨fun h=>absurd rfl h,fun i hi=>by simp at hi⟩
 |y::ys,x,z,h=>by
  simp only[Xv] at h
  split at h
  ·rename_i z1 hz1
   obtain⟨k,p,q,rfl,rfl,rfl⟩:=Bek hz1
   refine⟨fun _=>rfl,fun i hi=> ?_⟩
   cases i with
   |zero=>rfl
   |succ i=>exact(Xw ys _ z h).2 i (by simpa using hi)
  ·simp at h
theorem Bjc (hG:GR G w (Bl pl H)) (hH:HR w pl Bd H) (hE:RE w (Bl pl H) pl (Bc H) env a) {o:Oper} {ags:Array Operand} {ts:Array TypeId} {mx:Bool} (ho:o.op= .call { callee:= .builtin (bif mx then .max else .min),args:=ags,argTypes:=ts }) {x:AOpd} {xs:List AOpd} (hc:Kr (x::xs) ags.toList=true)
  {z:V} (hz:Xv mx (Cw G env x) (xs.map (Cw G env))=some z) (hne: (Cw G env x).ok=true):OpSim P o a w pl Bd H z H:=by
 obtain⟨h1,h2⟩:=Bax hG hE (x::xs) ags.toList hc
 obtain⟨_,k2⟩:=Xw _ _ _ hz
 cases has:ags.toList with
 |nil=>rw[has] at h1;simp at h1
 |cons y ys=>
  rw[has] at h1 h2
  have hx:=h2 0 (by simp) hne
  simp only[Cdd,List.getD_cons_zero] at hx
  obtain⟨r,hr1,hr2⟩:=Be3 (P:=P) (xs.map (Cw G env)) _ z _ (ys.map a.eval) hz hx (by simpa using h1) (fun i hi=>by
   have:=h2 (i+1) (by simpa using hi) (by simpa using k2 i hi)
   simpa using this)
  have hmap: (ags.map a.eval).toList=a.eval y::ys.map a.eval:=by rw[Array.toList_map,has];rfl
  refine .pure hH (u:=r) ?_ hr2
  simp only[execOp,ho,resolve]
  cases mx
  ·simp only[cond_false,Sem.run_bind,Sem.run_pure,Result.andThen_ok,invoke,builtin,Builtin.min_,hmap] at hr1⊢
   rw[hr1];rfl
  ·simp only[cond_true,Sem.run_bind,Sem.run_pure,Result.andThen_ok,invoke,builtin,Builtin.max_,hmap] at hr1⊢
   rw[hr1];rfl
end
section
variable {P:Program} {cl:D6} {G:Gi} {w:World} {pl:Pl} {Bd:Nat→Prop} {H:Hp} {env:Env} {a:Act}
theorem Zq {r:Nat} {v:V} (h:J3 r v=true) {j:Nat} (hj:j<v.cells.length):Fz r (v.cells.getD j .any)=true:=by
 cases v with
 |d x=>
  rw[Lm] at hj⊢
  rw[Dh _ j (by simpa using hj)]
  rfl
 |agg cs=>
  simp only[J3,Cdl] at h
  simp only[V.cells] at hj⊢
  have:cs.getD j .any=cs[j]:=by simp[Cda,hj]
  rw[this]
  exact h _ (Cdr hj)
 |slc r' g i n=>simp[V.cells] at hj;subst hj;simpa[J3,V.cells] using h
 |ptr r' g i k=>simp[V.cells] at hj;subst hj;simpa[J3,V.cells] using h
 |nils e=>simp[V.cells] at hj;subst hj;rfl
 |_=>simp[J3,Fz] at h
theorem Bca {O:Gz} {n r m j:Nat} {B:Bn} {v:V} {u:Value} (h:RV w O pl n (v.cells.getD j .any) u) (hj:j<v.cells.length) (hb:Ru B r v=true) (hn:N8 Bd B) (hm:m=n∨(Bd m∧r<m)):RV w O pl m (v.cells.getD j .any) u:=by
 rcases hm with rfl| ⟨hm,hlt⟩
 ·exact h
 ·simp only[Ru,Bool.or_eq_true,Cdv,Cdl] at hb
  rcases hb with hb| ⟨hb,ht⟩
  ·exact h.lower1 (Zq hb hj) (by omega)
  ·have h1:=Nat.le_of_ble_eq_true hb
   rcases hn m hm with h2|h2
   ·omega
   ·rcases ht m h2 with h3|h3
    ·have:=Nat.le_of_ble_eq_true h3
     omega
    ·exact h.lower1 (Zq h3 hj) (Cd7 _)
theorem Bk0 {r e:Nat} {B:Bn} {ys:List V} {A:Option Addr} {news:List Value} {Us:Bool} (hl:Lies w (Bl pl H) pl (Bc H) e ys A news) (hd:Us=true→∃ds:List D,ys=ds.map .d) (hok: (Us||ys.all (Ru B r))=true) (hn:N8 Bd B):
  ∀m,(m=Bc H∨(Bd m∧r<m))→∀i j,i<ys.length→j<e→RV w (Bl pl H) pl m ((ys.getD i .any).cells.getD j .any) (news.getD (i*e+j) undef):=by
 intro m hm i j hi hj
 have h:=hl.rel i j hi hj
 have hc:=hl.el i hi
 cases hdat:Us
 ·rw[hdat] at hok
  simp only[Bool.false_or,Cdl] at hok
  have hg:ys.getD i .any=ys[i]:=by simp[Cda,hi]
  refine Bca h (by omega) ?_ hn hm
  rw[hg];exact hok _ (Cdr hi)
 ·obtain⟨ds,rfl⟩:=hd hdat
  have hi':i<ds.length:=by simpa using hi
  rw[Dh ds i hi',Lm] at h hc⊢
  rw[Dh _ j (by simp only[Cdo] at hc;omega)] at h⊢
  exact .d _ _ h.dd
theorem Ql {e:Nat} {ys:List V} {A:Option Addr} {cap:Nat} {news:List Value} {O:Gz} {n:Nat} (hl:Lies w O pl n e ys A news) {w':World} (hw: ∀a,w'.cell? a=w.cell? a): (Builtin.firstCells e ys.length (.slice A ys.length cap)).run P w'= .ok news.toArray w':=by
 rcases hl.cell with h0| ⟨b,off,rfl,hc⟩
 ·have hn:news=[]:=Cdk (by rw[hl.len,h0,Nat.zero_mul])
  subst hn
  rw[h0]
  cases A with
  |none=>exact run_firstCells_none w' _ _ _ _
  |some ad=>simp[Builtin.firstCells,loadCells,loadCellsFrom]
 ·exact run_firstCells_some (P:=P) w' e ys.length ⟨b,off,none⟩ ys.length cap news hl.len (fun j u hj=>by rw[Addr.add_lit,hw];exact hc j u hj)
theorem Bt3 {t ty el e bytes:Nat} {iz:TypeInfo} (hds:P.underlying t=some (.slice el)) (hi:P.info? el=some iz) (hse:iz.size=e) {b n c m cap:Nat} {A:Option Addr} {news:List Value} (hroom:n+m≤c)
  (hfc: (Builtin.firstCells e m (.slice A m cap)).run P w= .ok news.toArray w) (hnl:news.length=m*e) (h1: ∀u∈news,u.oneCell'=true) {arr:Array Value} {ety:TypeId} {fr:Nat×Nat} (hh:w.heap[b]? =some (.cells arr ety fr)) (hs:arr.size=c*e) (hf:Ms fr arr.size):
  (Builtin.append_ #[t,t] ty #[.slice (some ⟨b,0,none⟩) n c, .slice A m cap]).run P w= .ok (.slice (some ⟨b,0,none⟩) (n+m) c) (w.setCells b (n*e) news):=by
 subst hse
 have hfit:n*iz.size+news.length≤arr.size:=by
  rw[hnl,hs,←Nat.add_mul]
  exact Cd8 _ hroom
 have hst:=run_storeCells_cells (P:=P) b (0+n*iz.size) news 0 w (fun j hj=>by rw[Nat.add_zero,Cd9,F4 hh (by omega)];rfl)
  (fun j hj=>by
   have:=hf (0+n*iz.size+0+j) (by omega)
   simp only[World.frozen?,hh]
   simp only[Cd0,decide_eq_false_iff_not]
   omega) h1
 simp only[Nat.add_zero,Cd9] at hst
 simp[Builtin.append_,run_underlying hds,sizeOf,typeInfo,hi,Builtin.lenOf,hroom,hfc,Addr.add_lit,hst]
theorem Bi4 {t ty el e bytes:Nat} {iz:TypeInfo} {z:Value} (hds:P.underlying t=some (.slice el)) (hi:P.info? el=some iz) (hz:iz.zero=some z) (hse:iz.size=e) (hby:iz.bytes=bytes) {S:Option Addr} {n c m cap:Nat} {A:Option Addr} {olds news:List Value} (hg:c<n+m)
  (hfo: (Builtin.firstCells e n (.slice S n c)).run P w.drew= .ok olds.toArray w.drew) (hfc: (Builtin.firstCells e m (.slice A m cap)).run P w.drew= .ok news.toArray w.drew) (hroom: (n+m)*bytes≤140737488355328) (hb0:0<bytes):
  (Builtin.append_ #[t,t] ty #[.slice S n c, .slice A m cap]).run P w= .ok (.slice (some ⟨w.heap.size,0,none⟩) (n+m) (grownCap w (n+m) c el)) (w.drew.alloc (.cells (olds.toArray++news.toArray++Builtin.zeroCells z.cells (grownCap w (n+m) c el - (n+m))) el)):=by
 subst hse
 subst hby
 have h63:n+m≤140737488355328:=by
  have:=Nat.mul_le_mul_left (n+m) hb0
  omega
 have hn: ¬ (n+m≤c):=by omega
 have h63': ¬ (9223372036854775807< ((n:Int)+(m:Int))):=by omega
 have hfit:=growslice_fits hg hroom
 have h48': ¬ (281474976710656<Builtin.nextslicecap (n+m) c*iz.bytes):=by omega
 simp[Builtin.append_,run_underlying hds,sizeOf,typeInfo,zeroValue,hi,hz,Builtin.lenOf,hn,h63',h48',Question.forced,hfc,hfo,newRow,grownCap]
 congr 2
 apply Array.ext'
 simp[List.append_assoc]
theorem Bxn {e:Nat} {ys:List V} {A:Option Addr} {news:List Value} {O:Gz} {n:Nat} (hl:Lies w O pl n e ys A news): ∀u∈news,u.oneCell'=true:=by
 intro u hu
 obtain⟨k,hk,rfl⟩:=List.mem_iff_getElem.1 hu
 have hk':k<ys.length*e:=by rw[←hl.len];exact hk
 obtain⟨d1,d2,d3⟩:=Yr hk'
 have:=hl.one _ _ d1 d2
 rw[d3] at this
 simpa[Cda,hk] using this
theorem Py {i n j e:Nat} (h:n≤i):n*e≤i*e+j:=by
 have:=Cd8 e h
 omega
theorem Ws {B:Bn} (hn0:N8 Bd B) (hG:GR G w (Bl pl H)) (hH:HR w pl Bd H) (hE:RE w (Bl pl H) pl (Bc H) env a) {o:Oper} {ags:Array Operand} {ts:Array TypeId} (ho:o.op= .call { callee:= .builtin .append,args:=ags,argTypes:=ts }) {S X:Operand} {t:Nat} (has:ags.toList=[S,X]) (hts:ts.toList=[t,t])
  {s x:AOpd} (hs:Cb s S=true) (hx:Cb x X=true) {e b:Nat} (hck: (match Gx P t with|some el=>Ml P el e&& (match P.info? el with|some i=>Nat.beq i.bytes b|none=>false) |none=>false)=true) (hb:0<b)
  {r g n:Nat} (hse:Cw G env s= .slc r g 0 n) {xs:List V} (hrow:C8 H r g=some (e,xs)) (hxk: (Cw G env x).ok=true) {ys:List V} {Us:Bool} (hsrc:R3 H (Cw G env x)=some (e,ys,Us)) (hok: (Us||ys.all (Ru B r))=true)
  {v:V} {H':Hp} (hv: (n≤xs.length∧xs.length≤n+ys.length∧(n+ys.length)*b≤Ct∧v= .slc r (g+1) 0 (n+ys.length)∧H'=Bw H r (.row (g+1) e (xs.take n++ys)))∨(n+ys.length≤xs.length∧v= .slc r g 0 (n+ys.length)∧H'=Bw H r (.row g e (xs.take n++ys++xs.drop (n+ys.length))))):
  OpSim P o a w pl Bd H v H':=by
 have hsv:=Cu hs hG hE (by rw[hse];rfl)
 have hxv:=Cu hx hG hE hxk
 rw[hse] at hsv
 obtain⟨A,cap,news,hxe,hcap,hl,hdat⟩:=Bc7 hH hsrc hxv
 have hlow:=Bk0 hl hdat hok hn0
 obtain⟨bl,c,arr,ty,fr,hpl,hh,hsa,hf,hxc,he,hr,h1,hbd⟩:=Jb hH hrow
 have has':ags= #[S,X]:=by apply Array.ext';rw[has]
 have hts':ts= #[t,t]:=by apply Array.ext';rw[hts]
 generalize hue:a.eval S=u at hsv
 cases hsv with
 |slc0 _ _ _ A cap hi' hlt=>omega
 |slc _ _ _ _ b' e' c' hlt hp' hk=>
  rw[hpl] at hp'
  simp only[Cdt,Cd2] at hp'
  obtain⟨rfl,rfl,rfl⟩:=hp'
  rw[Nat.zero_mul,Nat.sub_zero] at hue
  split at hck
  ·rename_i el hel
   have hds:=Fw hel
   simp only[Cdv] at hck
   obtain⟨k1,k2⟩:=hck
   obtain⟨iz,uz,hi,hu,hus,his⟩:=Rm k1
   rw[hi] at k2
   have k2:=Cd6 k2
   have hexec: ∀ (r:Value) (w':World),(Builtin.append_ #[t,t] o.type #[.slice (some ⟨bl,0,none⟩) n c, .slice A ys.length cap]).run P w= .ok r w'→(execOp a.eval o).run P w= .ok (.value r) w':=by
    intro r w' h
    simp only[execOp,ho,resolve,has',hts',Sem.run_bind,Sem.run_pure,Result.andThen_ok,invoke,builtin,List.map_toArray,Cdd,Cde,hue,hxe]
    rw[h];rfl
   have hold: ∀m,(m=Bc H∨(Bd m∧r<m))→∀i j,i<xs.length→j<e→RV w (Bl pl H) pl m ((xs.getD i .any).cells.getD j .any) (arr.getD (i*e+j) undef):=by
    intro m hm
    rcases hm with rfl| ⟨hm,hlt'⟩
    ·exact hr
    ·exact hbd m hm hlt'
   by_cases hroom:n+ys.length≤c
   ·have hfc:=Ql (P:=P) (cap:=cap) hl (w':=w) (fun _=>rfl)
    have hrun:=Bt3 (P:=P) (ty:=o.type) (bytes:=b) hds hi his hroom hfc hl.len (Bxn hl) hh hsa hf
    have hfit:n*e+news.length≤arr.size:=by rw[hl.len,hsa,←Nat.add_mul];exact Cd8 _ hroom
    obtain⟨s1,s2,s3,arr',s4,s5,s6⟩:=Mr news (n*e) w hh hfit
    rw[hl.len] at s6
    have hnew: ∀ (zs:List V),(∀i,i<zs.length→(zs.getD i .any=if n≤i∧i<n+ys.length then ys.getD (i - n) .any else xs.getD i .any)∧(¬ (n≤i∧i<n+ys.length)→i<xs.length))→
      ∀ (R:V→Value→Prop),(∀i j,i<ys.length→j<e→R ((ys.getD i .any).cells.getD j .any) (news.getD (i*e+j) undef))→(∀i j,i<xs.length→j<e→R ((xs.getD i .any).cells.getD j .any) (arr.getD (i*e+j) undef))→
      ∀i j,i<zs.length→j<e→R ((zs.getD i .any).cells.getD j .any) (arr'.getD (i*e+j) undef):=by
     intro zs hz R h1 h2 i j hi hj
     obtain⟨z1,z2⟩:=hz i hi
     rw[z1,s6]
     by_cases hin:n≤i∧i<n+ys.length
     ·have hge:=Py (j:=j) (e:=e) hin.1
      have hlt2:i*e+j<n*e+ys.length*e:=by rw[←Nat.add_mul];exact Du hin.2 hj
      rw[if_pos hin,if_pos ⟨hge,hlt2⟩]
      have hsub:i*e+j - n*e=(i - n)*e+j:=by rw[Nat.sub_mul];have:=Cd8 e hin.1;omega
      rw[hsub]
      exact h1 _ _ (by omega) hj
     ·rw[if_neg hin,if_neg (by
       intro hcon
       apply hin
       constructor
       ·rcases Nat.lt_or_ge i n with h|h
        ·have:=Du h hj;omega
        ·exact h
       ·rcases Nat.lt_or_ge i (n+ys.length) with h|h
        ·exact h
        ·have:=Py (j:=j) (e:=e) h
         rw[Nat.add_mul] at this
         omega)]
      exact h2 i j (z2 hin) hj
    have hfin: ∀ (g':Nat) (zs:List V),(g'=g∨g'=g+1)→zs.length≤c→(∀i,i<zs.length→(zs.getD i .any=if n≤i∧i<n+ys.length then ys.getD (i - n) .any else xs.getD i .any)∧(¬ (n≤i∧i<n+ys.length)→i<xs.length))→
      OpSim P o a w pl Bd H (.slc r g' 0 (n+ys.length)) (Bw H r (.row g' e zs)):=by
     intro g' zs hg' hzl hz
     obtain⟨q1,q2,q3⟩:=hH.setRow (w':=w.setCells bl (n*e) news) (g':=g') (b':=bl) (c':=c) (xs':=zs) (arr':=arr') (Jp hrow) hpl (by omega) (fun _=>rfl) s1 (by omega) (fun b'' _ hne=>s3 b'' hne) (.inl rfl) s4 (by omega) (by rw[s5];exact hf) hzl
      (fun i hi=>by
       obtain⟨z1,z2⟩:=hz i hi
       rw[z1]
       split
       ·rename_i hin;exact hl.el _ (by omega)
       ·rename_i hin;exact he _ (z2 hin))
      (fun i j hi hj=>hnew zs hz (fun _ u=>u.oneCell'=true) (fun i j hi hj=>hl.one i j hi hj) h1 i j hi hj)
      (fun m hm i j hi hj=>hnew zs hz (fun v u=>RV w (Bl pl H) pl m v u) (hlow m hm) (hold m hm) i j hi hj)
     exact .value (hexec _ _ hrun) ⟨q1,Rz (by rw[Bt];exact hlt) (Pn ..) (by omega) (by simp) (by omega),q2,q3,by rw[Bt];omega⟩
    rcases hv with⟨hn,hn2,_,rfl,rfl⟩ | ⟨hn,rfl,rfl⟩
    ·have tl: (xs.take n).length=n:=by simp;omega
     refine hfin (g+1) (xs.take n++ys) (.inr rfl) (by simp;omega) (fun i hi=> ⟨?_,fun hin=> ?_⟩)
     ·simp only[Cda,List.getElem?_append,tl]
      simp only[Cdi,tl] at hi
      by_cases h:i<n
      ·rw[if_pos h,if_neg (by omega),List.getElem?_take,if_pos h]
      ·rw[if_neg h,if_pos (by omega)]
     ·simp only[Cdi,tl] at hi
      omega
    ·refine hfin g _ (.inl rfl) (by simp;omega) (fun i hi=> ⟨Pz xs ys n i hn,fun hin=> ?_⟩)
     simp at hi
     omega
   ·rcases hv with⟨hn,hn2,hrm,rfl,rfl⟩ | ⟨hn,rfl,rfl⟩
    ·have tl: (xs.take n).length=n:=by simp;omega
     have hcell: ∀ad,w.drew.cell? ad=w.cell? ad:=fun _=>rfl
     have hfc:=Ql (P:=P) (cap:=cap) hl (w':=w.drew) hcell
     let olds:List Value:=(List.range (n*e)).map fun k=>arr.getD k undef
     have hol:olds.length=n*e:=by simp[olds]
     have hog: ∀i j,i<n→j<e→olds.getD (i*e+j) undef=arr.getD (i*e+j) undef:=by
      intro i j hi hj
      have:=Du hi hj
      simp[olds,Cda,List.getElem?_range this]
     have hfo: (Builtin.firstCells e n (.slice (some ⟨bl,0,none⟩) n c)).run P w.drew= .ok olds.toArray w.drew:=
      run_firstCells_some (P:=P) w.drew e n ⟨bl,0,none⟩ n c olds hol (fun j u hj=>by
       have hjl:j<n*e:=by have:=(List.getElem?_eq_some_iff.1 hj).1;omega
       simp[olds,List.getElem?_map,List.getElem?_range hjl] at hj
       subst hj
       rw[Addr.add_lit,hcell]
       have:n*e≤c*e:=Cd8 _ (by omega)
       rw[Cd9,F4 hh (by omega)]
       simp[Cd3])
     have hrun:=Bi4 (P:=P) (ty:=o.type) hds hi hu his k2 (by omega) hfo hfc hrm hb
     have hge:=grownCap_ge w (n+ys.length) c el
     generalize hcap':grownCap w (n+ys.length) c el=c2 at hrun hge
     let arr2:Array Value:=olds.toArray++news.toArray++Builtin.zeroCells uz.cells (c2 - (n+ys.length))
     have hsz2:arr2.size=c2*e:=by
      simp only[arr2,Array.size_append,List.size_toArray,size_zeroCells,hus,hol,hl.len,←Nat.add_mul]
      congr 1;omega
     have hg1: ∀i j,i<n→j<e→arr2.getD (i*e+j) undef=arr.getD (i*e+j) undef:=by
      intro i j hi hj
      have h3:=Du hi hj
      rw[←hog i j hi hj]
      simp only[arr2,Cd3,Cda]
      rw[Array.getElem?_append_left (by simp[hol];omega),Array.getElem?_append_left (by simp[hol];omega)]
      simp
     have hg2: ∀i j,i<ys.length→j<e→arr2.getD ((n+i)*e+j) undef=news.getD (i*e+j) undef:=by
      intro i j hi hj
      have h3:=Du hi hj
      simp only[arr2,Cd3,Cda]
      rw[Nat.add_mul,Array.getElem?_append_left (by simp[hol,hl.len];omega),Array.getElem?_append_right (by simp[hol];omega)]
      simp only[List.size_toArray,hol]
      rw[show n*e+i*e+j - n*e=i*e+j by omega]
      simp
     have hnew: ∀ (R:V→Value→Prop),(∀i j,i<ys.length→j<e→R ((ys.getD i .any).cells.getD j .any) (news.getD (i*e+j) undef))→(∀i j,i<xs.length→j<e→R ((xs.getD i .any).cells.getD j .any) (arr.getD (i*e+j) undef))→
       ∀i j,i< (xs.take n++ys).length→j<e→R (((xs.take n++ys).getD i .any).cells.getD j .any) (arr2.getD (i*e+j) undef):=by
      intro R h1 h2 i j hi hj
      simp only[Cdi,tl] at hi
      simp only[Cda (l:=xs.take n++ys),List.getElem?_append,tl]
      by_cases h:i<n
      ·rw[if_pos h,hg1 i j (by omega) hj,List.getElem?_take,if_pos h,←Cda]
       exact h2 i j (by omega) hj
      ·rw[if_neg h]
       obtain⟨k,rfl⟩: ∃k,i=n+k:=⟨i - n,by omega⟩
       rw[hg2 k j (by omega) hj,Nat.add_sub_cancel_left,←Cda]
       exact h1 k j (by omega) hj
     obtain⟨q1,q2,q3⟩:=hH.setRow (w':=w.drew.alloc (.cells arr2 el)) (g':=g+1) (b':=w.heap.size) (c':=c2) (xs':=xs.take n++ys) (arr':=arr2) (ty:=el) (fr:=(0,0)) (Jp hrow) hpl (by omega) (fun h=>by omega) ⟨rfl,rfl,rfl⟩ (by simp)
      (fun b'' hlt2 _=>heap_alloc_old w.drew _ b'' hlt2) (.inr (Cd7 _)) (heap_alloc_new w.drew _) hsz2 (N7 _) (by simp;omega)
      (fun i hi=>by
       simp only[Cdi,tl] at hi
       simp only[Cda (l:=xs.take n++ys),List.getElem?_append,tl]
       by_cases h:i<n
       ·rw[if_pos h,List.getElem?_take,if_pos h,←Cda];exact he i (by omega)
       ·rw[if_neg h,←Cda];exact hl.el _ (by omega))
      (fun i j hi hj=>hnew (fun _ u=>u.oneCell'=true) (fun i j hi hj=>hl.one i j hi hj) h1 i j hi hj)
      (fun m hm i j hi hj=>hnew (fun v u=>RV w (Bl pl H) pl m v u) (hlow m hm) (hold m hm) i j hi hj)
     exact .value (hexec _ _ hrun) ⟨q1,Rz (by rw[Bt];exact hlt) (Pn ..) (by omega) (by simp) (by omega),q2,q3,by rw[Bt];omega⟩
    ·omega
  ·simp at hck
theorem Bqd {B:Bn} (hn0:N8 Bd B) (hG:GR G w (Bl pl H)) (hH:HR w pl Bd H) (hE:RE w (Bl pl H) pl (Bc H) env a) {o:Oper} {ags:Array Operand} {ts:Array TypeId} (ho:o.op= .call { callee:= .builtin .clear,args:=ags,argTypes:=ts }) {X:Operand} {t:Nat} (has:ags.toList=[X]) (hts:ts.toList=[t])
  {x:AOpd} (hx:Cb x X=true) {e:Nat} {z:V} (hck: (match Gx P t with|some el=>Nh P el z|none=>false)=true)
  {r g i n:Nat} (hse:Cw G env x= .slc r g i n) {xs:List V} (hrow:C8 H r g=some (e,xs)) (hin:i+n≤xs.length) (hn:0<n) (hsto:z.sto=true) (hzc:z.cells.length=e) (hok:Ru B r z=true):
  OpSim P o a w pl Bd H (.tup []) (Bw H r (.row g e (xs.take i++List.replicate n z++xs.drop (i+n)))):=by
 have hsv:=Cu hx hG hE (by rw[hse];rfl)
 rw[hse] at hsv
 obtain⟨bl,c,arr,ty,fr,hpl,hh,hsa,hf,hxc,he,hr,h1,hbd⟩:=Jb hH hrow
 have has':ags= #[X]:=by apply Array.ext';rw[has]
 have hts':ts= #[t]:=by apply Array.ext';rw[hts]
 generalize hue:a.eval X=u at hsv
 cases hsv with
 |slc0=>omega
 |slc _ _ _ _ b' e' c' hlt hp' hk=>
  rw[hpl] at hp'
  simp only[Cdt,Cd2] at hp'
  obtain⟨rfl,rfl,rfl⟩:=hp'
  split at hck
  ·rename_i el hel
   have hds:=Fw hel
   obtain⟨iz,uz,hi,hu,hcst,his⟩:=M7 hck
   have hzr:=Q5 (w:=w) (O:=Bl pl H) (pl:=pl) (n:=Bc H) hcst
   have hcs:=hzr.cells hsto
   have hus:uz.cells.size=e:=by rw[hcs.size,hzc]
   let news:List Value:=(Builtin.zeroCells uz.cells n).toList
   have hnl:news.length=n*e:=by simp[news,Builtin.zeroCells,hus]
   have hng: ∀k j,k<n→j<e→news.getD (k*e+j) undef=uz.cells.getD j undef:=by
    intro k j hk2 hj
    have hlt2:=Du hk2 hj
    have hmod: (k*e+j) % e=j:=by rw[Nat.add_comm,Nat.add_mul_mod_self_right,Nat.mod_eq_of_lt hj]
    have hj':j<uz.cells.size:=by omega
    simp only[news,Builtin.zeroCells,Cda,Array.toList_map,List.getElem?_map,Array.toList_range,hus]
    rw[List.getElem?_range hlt2]
    simp only[Option.map_some,Cdu,hmod]
    rw[getElem!_pos uz.cells j hj',Cd3,Cd5 hj']
    rfl
   have hone: ∀j,j<e→(uz.cells.getD j undef).oneCell'=true:=fun j hj=>hcs.one j (by omega)
   have hmem1: ∀v∈news,v.oneCell'=true:=by
    intro v hv
    obtain⟨q,hq,rfl⟩:=List.getElem_of_mem hv
    have he0:0<e:=by
     rcases Nat.eq_zero_or_pos e with h|h
     ·rw[hnl,h] at hq;omega
     ·exact h
    have hq':q<n*e:=by omega
    have hdm:=Nat.div_add_mod q e
    have hkk:q / e<n:=Nat.div_lt_of_lt_mul (by rw[Nat.mul_comm];exact hq')
    have hjj:=Nat.mod_lt q he0
    have:=hng (q / e) (q % e) hkk hjj
    rw[Nat.mul_comm,hdm,Cda,Cdh hq,Cdu] at this
    rw[this]
    exact hone _ hjj
   have hfit:i*e+news.length≤arr.size:=by rw[hnl,hsa,←Nat.add_mul];exact Cd8 _ (by omega)
   have hst:=run_storeCells_cells (P:=P) bl (i*e) news 0 w (fun j hj=>by rw[Nat.add_zero,F4 hh (by omega)];rfl)
    (fun j hj=>by
     have:=hf (i*e+0+j) (by omega)
     simp only[World.frozen?,hh]
     simp only[Cd0,decide_eq_false_iff_not]
     omega) hmem1
   simp only[Nat.add_zero] at hst
   have hexec: (execOp a.eval o).run P w= .ok (.value (.tuple #[])) (w.setCells bl (i*e) news):=by
    obtain⟨m,rfl⟩: ∃m,n=m+1:=⟨n - 1,by omega⟩
    simp only[execOp,ho,resolve,has',hts',Sem.run_bind,Sem.run_pure,Result.andThen_ok,invoke,builtin,List.map_toArray,Cdd,Cde,hue]
    simp[Builtin.clear_,run_underlying hds,zeroValue,typeInfo,hi,hu]
    rw[hst]
    rfl
   obtain⟨s1,s2,s3,arr',s4,s5,s6⟩:=Mr news (i*e) w hh hfit
   rw[hnl] at s6
   have hold: ∀m,(m=Bc H∨(Bd m∧r<m))→∀k j,k<xs.length→j<e→RV w (Bl pl H) pl m ((xs.getD k .any).cells.getD j .any) (arr.getD (k*e+j) undef):=by
    intro m hm
    rcases hm with rfl| ⟨hm,hlt'⟩
    ·exact hr
    ·exact hbd m hm hlt'
   have hrl: (List.replicate n z).length=n:=List.length_replicate
   have hsp: ∀k,(xs.take i++List.replicate n z++xs.drop (i+n)).getD k .any=if i≤k∧k<i+n then(List.replicate n z).getD (k - i) .any else xs.getD k .any:=fun k=>by
    have:=Pz xs (List.replicate n z) i k (by rw[hrl];exact hin)
    rw[hrl] at this
    exact this
   have hlz: (xs.take i++List.replicate n z++xs.drop (i+n)).length=xs.length:=by simp;omega
   have hrep: ∀k,k<n→(List.replicate n z).getD k .any=z:=fun k hk2=>by simp[Cda,List.getElem?_replicate,hk2]
   have hnew: ∀ (R:V→Value→Prop),(∀j,j<e→R (z.cells.getD j .any) (uz.cells.getD j undef))→(∀k j,k<xs.length→j<e→R ((xs.getD k .any).cells.getD j .any) (arr.getD (k*e+j) undef))→
     ∀k j,k<xs.length→j<e→R (((xs.take i++List.replicate n z++xs.drop (i+n)).getD k .any).cells.getD j .any) (arr'.getD (k*e+j) undef):=by
    intro R h1 h2 k j hk2 hj
    rw[hsp,s6]
    by_cases hin2:i≤k∧k<i+n
    ·have hge:=Py (j:=j) (e:=e) hin2.1
     have hlt2:k*e+j<i*e+n*e:=by rw[←Nat.add_mul];exact Du hin2.2 hj
     rw[if_pos hin2,if_pos ⟨hge,hlt2⟩,hrep _ (by omega)]
     have hsub:k*e+j - i*e=(k - i)*e+j:=by rw[Nat.sub_mul];have:=Cd8 e hin2.1;omega
     rw[hsub,hng _ _ (by omega) hj]
     exact h1 j hj
    ·rw[if_neg hin2,if_neg (by
      intro hcon
      apply hin2
      constructor
      ·rcases Nat.lt_or_ge k i with h|h
       ·have:=Du h hj;omega
       ·exact h
      ·rcases Nat.lt_or_ge k (i+n) with h|h
       ·exact h
       ·have:=Py (j:=j) (e:=e) h
        rw[Nat.add_mul] at this
        omega)]
     exact h2 k j hk2 hj
   have hlow: ∀m,(m=Bc H∨(Bd m∧r<m))→∀j,j<e→RV w (Bl pl H) pl m (z.cells.getD j .any) (uz.cells.getD j undef):=fun m hm j hj=>
    Bca (hcs.rel j (by omega)) (by omega) hok hn0 hm
   obtain⟨q1,q2,q3⟩:=hH.setRow (w':=w.setCells bl (i*e) news) (g':=g) (b':=bl) (c':=c) (xs':=xs.take i++List.replicate n z++xs.drop (i+n)) (arr':=arr') (Jp hrow) hpl (Cd7 _) (fun _=>rfl) s1 (by omega) (fun b'' _ hne=>s3 b'' hne) (.inl rfl) s4 (by omega) (by rw[s5];exact hf) (by rw[hlz];exact hxc)
    (fun k hk2=>by
     rw[hlz] at hk2
     rw[hsp]
     split
     ·rw[hrep _ (by omega)];exact hzc
     ·exact he _ hk2)
    (fun k j hk2 hj=>hnew (fun _ u=>u.oneCell'=true) hone h1 k j (by rw[hlz] at hk2;exact hk2) hj)
    (fun m hm k j hk2 hj=>hnew (fun v u=>RV w (Bl pl H) pl m v u) (hlow m hm) (hold m hm) k j (by rw[hlz] at hk2;exact hk2) hj)
   exact .value hexec ⟨q1, .tup [] #[] rfl (fun k hk2=>by simp at hk2),q2,q3,by rw[Bt];omega⟩
  ·simp at hck
end
section
variable {P:Program} {cl:D6} {G:Gi} {w:World} {pl:Pl} {Bd:Nat→Prop} {H:Hp} {env:Env} {a:Act}
theorem U0 {e:Nat} {S:Option Addr} {c:Nat} {w':World} : (Builtin.firstCells e 0 (.slice S 0 c)).run P w'= .ok #[] w':=by
 cases S with
 |none=>exact run_firstCells_none w' _ _ _ _
 |some ad=>simp[Builtin.firstCells,loadCells,loadCellsFrom]
theorem U1 (hG:GR G w (Bl pl H)) (hH:HR w pl Bd H) (hE:RE w (Bl pl H) pl (Bc H) env a) {o:Oper} {ags:Array Operand} {ts:Array TypeId} (ho:o.op= .call { callee:= .builtin .append,args:=ags,argTypes:=ts }) {S X:Operand} {t:Nat} (has:ags.toList=[S,X]) (hts:ts.toList=[t,t])
  {s x:AOpd} (hs:Cb s S=true) (hx:Cb x X=true) {e b:Nat} (hck: (match Gx P t with|some el=>Ml P el e&& (match P.info? el with|some i=>Nat.beq i.bytes b|none=>false) |none=>false)=true) (hb:0<b)
  (hse:Cw G env s= .nils e) (hxk: (Cw G env x).ok=true) {ys:List V} {Us:Bool} {e':Nat} (hsrc:R3 H (Cw G env x)=some (e',ys,Us)) {v:V} {H':Hp}
  (hv: (ys=[]∧v= .nils e∧H'=H)∨(e'=e∧0<ys.length∧ys.length*b≤Ct∧v= .slc (Bc H) 0 0 ys.length∧H'=Bp H (.row 0 e ys))):OpSim P o a w pl Bd H v H':=by
 have hsv:=Cu hs hG hE (by rw[hse];rfl)
 have hxv:=Cu hx hG hE hxk
 rw[hse] at hsv
 obtain⟨A,cap,news,hxe,hcap,hl,hdat⟩:=Bc7 hH hsrc hxv
 have has':ags= #[S,X]:=by apply Array.ext';rw[has]
 have hts':ts= #[t,t]:=by apply Array.ext';rw[hts]
 generalize hue:a.eval S=u at hsv
 cases hsv with
 |nils _ B=>
  split at hck
  ·rename_i el hel
   have hds:=Fw hel
   simp only[Cdv] at hck
   obtain⟨k1,k2⟩:=hck
   obtain⟨iz,uz,hi,hu,hus,his⟩:=Rm k1
   rw[hi] at k2
   have k2:=Cd6 k2
   have hexec: ∀ (r:Value) (w':World),(Builtin.append_ #[t,t] o.type #[.slice B 0 0, .slice A ys.length cap]).run P w= .ok r w'→(execOp a.eval o).run P w= .ok (.value r) w':=by
    intro r w' h
    simp only[execOp,ho,resolve,has',hts',Sem.run_bind,Sem.run_pure,Result.andThen_ok,invoke,builtin,List.map_toArray,Cdd,Cde,hue,hxe]
    rw[h];rfl
   rcases hv with⟨hy,rfl,rfl⟩ | ⟨rfl,hy,hrm,rfl,rfl⟩
   ·subst hy
    refine .pure hH (u:= .slice B 0 0) (hexec _ _ ?_) (.nils _ _)
    have hfc:=U0 (P:=P) (e:=iz.size) (S:=A) (c:=cap) (w':=w)
    cases B with
    |none=>simp[Builtin.append_,run_underlying hds,sizeOf,typeInfo,hi,Builtin.lenOf,hfc]
    |some ad=>simp[Builtin.append_,run_underlying hds,sizeOf,typeInfo,hi,Builtin.lenOf,hfc,storeCells]
   ·have hcell: ∀ad,w.drew.cell? ad=w.cell? ad:=fun _=>rfl
    have hfc:=Ql (P:=P) (cap:=cap) hl (w':=w.drew) hcell
    have hfo:=U0 (P:=P) (e:=e') (S:=B) (c:=0) (w':=w.drew)
    have hrun:=Bi4 (P:=P) (ty:=o.type) (olds:=[]) hds hi hu his k2 (n:=0) (c:=0) (by omega) hfo hfc (by rw[Cd9];exact hrm) hb
    rw[Cd9] at hrun
    have hge:=grownCap_ge w ys.length 0 el
    generalize hcap':grownCap w ys.length 0 el=c2 at hrun hge
    let arr2:Array Value:= #[]++news.toArray++Builtin.zeroCells uz.cells (c2 - ys.length)
    have hsz2:arr2.size=c2*e':=by
     have h5:c2*e'=ys.length*e'+(c2 - ys.length)*e':=by rw[←Nat.add_mul];congr 1;omega
     rw[h5]
     simp only[arr2,Array.empty_append,Array.size_append,List.size_toArray,size_zeroCells,hus,hl.len]
    have hg2: ∀i j,i<ys.length→j<e'→arr2.getD (i*e'+j) undef=news.getD (i*e'+j) undef:=by
     intro i j hi hj
     have h3:=Du hi hj
     simp only[arr2,Cd3,Cda,Array.empty_append]
     rw[Array.getElem?_append_left (by simp[hl.len];omega)]
     simp
    obtain⟨pl',h1,h2,h3,h4⟩:=Xl hH (w':=w.drew.alloc (.cells arr2 el)) (e:=e') (c:=c2) (xs:=ys) rfl ⟨rfl,rfl,rfl⟩ hsz2 (N7 _) hge hl.el
     (fun i j hi hj=>by rw[hg2 i j hi hj];exact hl.rel i j hi hj)
     (fun i j hi hj=>by rw[hg2 i j hi hj];exact hl.one i j hi hj)
    exact .value (hexec _ _ hrun) ⟨h2,Rz (by rw[Cf];omega) h1 (by omega) (by simp) (by omega),h3,h4,by rw[Cf];omega⟩
  ·simp at hck
theorem Bqj (hH:HR w pl Bd H) {o:Oper} {t:Nat} {r:Option Operand} (hc: (match r with|none=>true|some (.const (.int _ _))=>Fs P t (fun| .map _ _=>true|_=>false) |_=>false)=true) (ho:o.op= .makeMap t r):
  OpSim P o a w pl Bd H (.mref (Bc H)) (Bp H (.map [] [])):=by
 have hpl:PlExt (Bc H) pl (Ku pl (Bc H) (w.heap.size,0,0)):=fun r hr g p hp=>by rw[Ld (by omega)];exact hp
 obtain⟨h2,h3,h4⟩:=hH.push (w':= { w with heap:=w.heap.push (.map #[] 0) }) (.map [] []) (.map #[] 0) 0 0 rfl ⟨rfl,rfl,rfl⟩ (by simp[Gq,Co,G7]) (fun O' E=>
  .map [] [] w.heap.size 0 0 #[] 0 (G7 ..) (by simp) rfl rfl (fun i hi=>by simp at hi) (fun i hi=>by simp at hi))
 have hrun: (execOp a.eval o).run P w= .ok (.value (.map (some w.heap.size))) { w with heap:=w.heap.push (.map #[] 0) } :=by
  simp only[execOp,ho]
  split at hc
  ·simp[Instr.makeMap]
  ·rename_i k n
   obtain⟨ds,hds,hk⟩:=Dt hc
   cases ds<;>simp at hk
   simp[Instr.makeMap,run_underlying hds,asInt,asIntOf,Act.eval]
  ·simp at hc
 exact .value hrun ⟨h2, .mref _ _ _ _ (by rw[Cf];omega) (G7 ..),h3,h4,by rw[Cf];omega⟩
theorem Nu {t:Nat} (hk:Fs P t Uv=true) (b:Bool) (n:Nat) (v:Value): (Instr.checkKey b (n+1) t v).run P w= .ok () w:=by
 obtain⟨ds,hds,hk⟩:=Dt hk
 cases ds<;>simp[Uv] at hk<;>simp[Instr.checkKey,run_underlying hds]
theorem Bm6 {s:ByteArray} {l:List UInt8} {t:ByteArray} {l':List UInt8} (h:s.toList=l) (h':t.toList=l'): (s==t)=decide (l=l'):=by
 rw[beq_toListBytes,h,h',Bool.eq_iff_iff];simp
theorem Ri {kd:D} {u:Value} {O:Gz} (hu:RD w O kd u) {α:Type} : ∀ (ks:List D) (vs:List α) (es:List MapEntry) (i:Nat) (r:Option α),Bdf kd ks vs=some r→es.length=ks.length→(∀j,j<ks.length→RD w O (ks.getD j .nilp) (es.getD j default).key)→
  ∃res,Instr.findNow .string u es i=some res∧((r=none∧res=none)∨∃j x,r=some x∧vs[j]? =some x∧j<es.length∧res=some (i+j,(es.getD j default).val))
 | [],vs,es,i,r,h,hl,_=>by
  have:es=[]:=Cdk (by simpa using hl)
  subst this
  simp[Bdf] at h;subst h
  exact⟨none,rfl, .inl ⟨rfl,rfl⟩⟩
 |k::ks,[],es,i,r,h,_,_=>by simp[Bdf] at h
 |k::ks,v::vs,es,i,r,h,hl,hk=>by
  match es,hl with
  |e::es,hl=>
   have hk0:=hk 0 (by simp)
   simp only[List.getD_cons_zero] at hk0
   simp only[Bdf] at h
   split at h
   ·rename_i heq
    simp at h;subst h
    unfold Bnj at heq
    split at heq
    ·rename_i p q
     simp at heq;subst heq
     obtain⟨t1,rfl,e1,_⟩:=hu.str_eq
     obtain⟨t2,h2,e2,_⟩:=hk0.str_eq
     refine⟨some (i,e.val), ?_, .inr ⟨0,v,rfl,rfl,by simp,rfl⟩⟩
     simp only[Instr.findNow,h2,Instr.sameNow,Bm6 e1 e2]
     simp
    ·simp at heq
   ·rename_i heq
    unfold Bnj at heq
    split at heq
    ·rename_i p q
     simp at heq
     obtain⟨t1,rfl,e1,_⟩:=hu.str_eq
     obtain⟨t2,h2,e2,_⟩:=hk0.str_eq
     obtain⟨res,r1,r2⟩:=Ri hu ks vs es (i+1) r h (by simpa using hl) (fun j hj=>by have:=hk (j+1) (by simpa using hj);simpa using this)
     refine⟨res, ?_, ?_⟩
     ·simp only[Instr.findNow,h2,Instr.sameNow,Bm6 e1 e2]
      simp only[heq,decide_false]
      exact r1
     ·rcases r2 with r2| ⟨j,x,h1,h2,h3,h4⟩
      ·exact .inl r2
      ·exact .inr ⟨j+1,x,h1,by simpa using h2,by simpa using h3,by rw[h4,show i+1+j=i+(j+1) by omega];rfl⟩
    ·simp at heq
   ·simp at h
theorem Bb8 {t:Nat} {f:Nat→Nat→Bool} (h: (match P.underlying t with|some (.map kt et)=>f kt et|_=>false)=true): ∃kt et,P.underlying t=some (.map kt et)∧f kt et=true:=by
 split at h
 ·rename_i kt et hd;exact⟨kt,et,hd,h⟩
 ·simp at h
theorem Bc5 (hG:GR G w (Bl pl H)) (hH:HR w pl Bd H) (hE:RE w (Bl pl H) pl (Bc H) env a) {o:Oper} {t:Nat} {M K:Operand} {ok:Bool} (ho:o.op= .lookup t M K ok) {z:D} {m k:AOpd} (hm:Cb m M=true) (hk:Cb k K=true)
  (hc: (match P.underlying t with|some (.map kt et)=>Fs P kt Uv&&Nh P et (.d z) |_=>false)=true) {ks vs:List D} (hme:Cw G env m= .d (.mval ks vs)) {kd:D} (hke:Cw G env k= .d kd) {r:Option D} (hl:Bdf kd ks vs=some r) {v:V}
  (hv: (∃x,r=some x∧v=(bif ok then .tup [.d x, .d (.bool true)] else .d x))∨(r=none∧v=(bif ok then .tup [.d z, .d (.bool false)] else .d z))):OpSim P o a w pl Bd H v H:=by
 have hmv:=Cu hm hG hE (by rw[hme];rfl)
 have hkv:=Cu hk hG hE (by rw[hke];rfl)
 rw[hme] at hmv
 rw[hke] at hkv
 obtain⟨kt,et,hund,hf⟩:=Bb8 hc
 simp only[Cdv] at hf
 obtain⟨f1,f2⟩:=hf
 obtain⟨iz,uz,hi,hu,hcst,_⟩:=M7 f2
 have hzr:=(Q5 (w:=w) (O:=Bl pl H) (pl:=pl) (n:=Bc H) hcst).dd
 obtain⟨dk,hdk,hdk2⟩:=Dt f1
 have hdk3:P.underlying kt=some .string:=by cases dk<;>simp[Uv] at hdk2;exact hdk
 have hmd:=hmv.dd
 have hkd:=hkv.dd
 suffices hs: ∃x u,(Instr.lookup t (a.eval M) (a.eval K) ok).run P w= .ok (if ok then .tuple #[u, .bool x] else u) w∧((∃y,r=some y∧x=true∧RD w (Bl pl H) y u)∨(r=none∧x=false∧u=uz)) by
  obtain⟨x,u,hrun,hcase⟩:=hs
  have htup: ∀ (y:D) (b:Bool),RD w (Bl pl H) y u→RV w (Bl pl H) pl (Bc H) (bif ok then .tup [.d y, .d (.bool b)] else .d y) (if ok then .tuple #[u, .bool b] else u):=by
   intro y b hy
   cases ok
   ·exact .d _ _ hy
   ·refine .tup _ _ rfl fun i hi=> ?_
    match i,hi with
    |0,_=>exact .d _ _ hy
    |1,_=>exact .d _ _ (.bool _)
    |n+2,hi=>simp at hi;omega
  refine .pure hH (u:=if ok then .tuple #[u, .bool x] else u) (by simp only[execOp,ho];rw[Sem.run_bind,hrun];rfl) ?_
  rcases hv with⟨y,hy,rfl⟩ | ⟨hn,rfl⟩
  ·rcases hcase with⟨y',hy',rfl,hrd⟩ | ⟨hn,_⟩
   ·rw[hy] at hy'
    simp only[Cdt] at hy'
    subst hy'
    exact htup _ _ hrd
   ·rw[hy] at hn;simp at hn
  ·rcases hcase with⟨y',hy',_⟩ | ⟨_,rfl,rfl⟩
   ·rw[hn] at hy';simp at hy'
   ·exact htup _ _ hzr
 generalize a.eval M=um at*
 generalize a.eval K=uk at*
 cases hmd with
 |mval0=>
  simp[Bdf] at hl;subst hl
  refine⟨false,uz, ?_, .inr ⟨rfl,rfl,rfl⟩⟩
  have hfk: (Instr.findKey kt uk []).run P w= .ok none w:=by simp[Instr.findKey,run_underlying hdk3,Instr.findNow]
  cases ok<;>simp[Instr.lookup,run_underlying hund,Nu f1,hfk,zeroValue,typeInfo,hi,hu]
 |mval _ _ b es clock hO hb hheap hk1 hv1 hrk hrv=>
  obtain⟨res,r1,r2⟩:=Ri hkd ks vs es.toList 0 r hl (by simpa using hk1) (fun j hj=>by have:=hrk j (by omega);simpa[Cda,Cd3] using this)
  have hfk: (Instr.findKey kt uk es.toList).run P w= .ok res w:=by simp[Instr.findKey,run_underlying hdk3,r1]
  rcases r2 with⟨rfl,rfl⟩ | ⟨j,x,rfl,hj1,hj2,rfl⟩
  ·refine⟨false,uz, ?_, .inr ⟨rfl,rfl,rfl⟩⟩
   cases ok<;>simp[Instr.lookup,run_underlying hund,Nu f1,hfk,zeroValue,typeInfo,hi,hu,getObj,Sem.run,hheap]
  ·have hj3:j<es.size:=by simpa using hj2
   have hx:vs.getD j .nilp=x:=by simp[Cda,hj1]
   have hrd:=hrv j hj3
   rw[hx] at hrd
   refine⟨true,(es.getD j default).val, ?_, .inl ⟨x,rfl,rfl,hrd⟩⟩
   have hgd:es.toList.getD j default=es.getD j default:=by simp[Cda,Cd3]
   cases ok<;>simp[Instr.lookup,run_underlying hund,Nu f1,hfk,zeroValue,typeInfo,hi,hu,getObj,Sem.run,hheap,hgd,hj3]
end
theorem HR.setMap {w w':World} {pl:Pl} {Bd:Nat→Prop} {H:Hp} (h:HR w pl Bd H) {r:Nat} {ks vs ks' vs':List V} {b e c:Nat} {es':Array MapEntry} {clock':Nat}
  (hr:Cc H r=some (.map ks vs)) (hp:pl r 0=some (b,e,c)) (hs:Same w w') (hsz:w'.heap.size=w.heap.size) (hoth: ∀b'',b''≠b→w'.heap[b'']? =w.heap[b'']?)
  (hh:w'.heap[b]? =some (.map es' clock')) (hk:es'.size=ks'.length) (hv:es'.size=vs'.length)
  (hrel: ∀m,(m=Bc H∨(Bd m∧r<m))→∀i,i<es'.size→RV w (Bl pl H) pl m (ks'.getD i .any) (es'.getD i default).key∧RV w (Bl pl H) pl m (vs'.getD i .any) (es'.getD i default).val):
  HR w' pl Bd (Bw H r (.map ks' vs'))∧Ext w (Bl pl H) w' (Bl pl (Bw H r (.map ks' vs'))):=by
 have hrl:=Fu hr
 have hbl:Gq pl H r=some b:=by simp[Gq,hr,hp]
 have hbk: ∀r',Gq pl (Bw H r (.map ks' vs')) r'=Gq pl H r':=by
  intro r'
  by_cases hne:r'=r
  ·subst hne
   rw[hbl]
   simp[Gq,Cn _ hrl,hp]
  ·unfold Gq
   rw[F5 _ hne]
 have hown:Bl pl (Bw H r (.map ks' vs'))=Bl pl H:=by funext b';simp only[Bl,hbk]
 have E:Ext w (Bl pl H) w' (Bl pl (Bw H r (.map ks' vs'))):=by
  rw[hown]
  exact⟨hs.os,hs.tape,hs.output,by omega,fun b'' _ hO=> ⟨hoth b'' (fun hh=>hO ⟨r,by rw[hh];exact hbl⟩),hO⟩⟩
 have hold: ∀r' o' m,r'≠r→Cc H r'=some o'→OR w (Bl pl H) pl m r' o'→OR w' (Bl pl (Bw H r (.map ks' vs'))) pl m r' o':=by
  intro r' o' m hne ho' hor
  cases hor with
  |dead=>exact .dead
  |row g1 e1 xs1 b1 c1 arr1 ty1 fr1 hp1 hh1 hs1 hf1 hx1 he1 hr1 h11 hg1=>
   have hb1:Gq pl H r'=some b1:=by simp[Gq,ho',hp1]
   have hne1:b1≠b:=fun hh=>hne (h.inj r' r b1 hb1 (by rw[hh];exact hbl))
   exact .row g1 e1 xs1 b1 c1 arr1 ty1 fr1 hp1 ((hoth b1 hne1).trans hh1) hs1 hf1 hx1 he1 (fun i j hi hj=> (hr1 i j hi hj).mono E (PlExt.refl _ _) (Cd7 _)) h11 hg1
  |map ks1 vs1 b1 e1 c1 es clock hp1 hh1 hk1 hv1 hrk hrv=>
   have hb1:Gq pl H r'=some b1:=by simp[Gq,ho',hp1]
   have hne1:b1≠b:=fun hh=>hne (h.inj r' r b1 hb1 (by rw[hh];exact hbl))
   exact .map ks1 vs1 b1 e1 c1 es clock hp1 ((hoth b1 hne1).trans hh1) hk1 hv1 (fun i hi=> (hrk i hi).mono E (PlExt.refl _ _) (Cd7 _)) (fun i hi=> (hrv i hi).mono E (PlExt.refl _ _) (Cd7 _))
 have hnew: ∀m,(m=Bc H∨(Bd m∧r<m))→OR w' (Bl pl (Bw H r (.map ks' vs'))) pl m r (.map ks' vs'):=fun m hm=>
  .map ks' vs' b e c es' clock' hp hh hk hv (fun i hi=> (hrel m hm i hi).1.mono E (PlExt.refl _ _) (Cd7 _)) (fun i hi=> (hrel m hm i hi).2.mono E (PlExt.refl _ _) (Cd7 _))
 refine⟨⟨?_,fun r1 r2 b1 h1 h2=>by rw[hbk] at h1 h2;exact h.inj r1 r2 b1 h1 h2, ?_,fun m hm=>by rw[Bt];exact h.le m hm⟩,E⟩
 ·intro r' o' ho'
  rw[Bt]
  by_cases hne:r'=r
  ·subst hne
   rw[Cn _ hrl] at ho'
   obtain rfl:=Option.some.inj ho'
   exact hnew _ (.inl rfl)
  ·rw[F5 _ hne] at ho'
   exact hold r' o' _ hne ho' (h.obj r' o' ho')
 ·intro m hm r' o' hlt ho'
  by_cases hne:r'=r
  ·subst hne
   rw[Cn _ hrl] at ho'
   obtain rfl:=Option.some.inj ho'
   exact hnew m (.inr ⟨hm,hlt⟩)
  ·rw[F5 _ hne] at ho'
   exact hold r' o' m hne ho' (h.bd m hm r' o' hlt ho')
section
variable {P:Program} {cl:D6} {G:Gi} {w:World} {pl:Pl} {Bd:Nat→Prop} {H:Hp} {env:Env} {a:Act}
theorem Bec (xs:List V) (x:V) (i:Nat) (hi:i<xs.length+1): (xs++[x]).getD i .any=if i<xs.length then xs.getD i .any else x:=by
 simp only[Cda,List.getElem?_append]
 by_cases h:i<xs.length
 ·simp[h]
 ·have:i - xs.length=0:=by omega
  simp[h,this]
theorem Bo4 (es:Array MapEntry) (x:MapEntry) (i:Nat) (hi:i<es.size+1): (es.push x).getD i default=if i<es.size then es.getD i default else x:=by
 simp only[Cd3]
 by_cases h:i<es.size
 ·rw[Array.getElem?_push_lt h];simp[h]
 ·obtain rfl:i=es.size:=by omega
  simp
theorem Bc3 {B:Bn} (hn0:N8 Bd B) (hG:GR G w (Bl pl H)) (hH:HR w pl Bd H) (hE:RE w (Bl pl H) pl (Bc H) env a) {o:Oper} {t:Nat} {M K X:Operand} (ho:o.op= .insert t M K X∨o.op= .mapUpdate t M K X) {m k x:AOpd} (hm:Cb m M=true) (hk:Cb k K=true) (hx:Cb x X=true)
  (hc: (match P.underlying t with|some (.map kt _)=>Fs P kt Uv|_=>false)=true) {r:Nat} (hme:Cw G env m= .mref r) {kd:D} (hke:Cw G env k= .d kd) (hxk: (Cw G env x).ok=true) {ks vs:List V} (hrow:Cc H r=some (.map ks vs)) {kds:List D} (hkd:Gr ks=some kds)
  (hl:Bdf kd kds vs=some none) (hok:Ru B r (Cw G env x)=true):OpSim P o a w pl Bd H .und (Bw H r (.map (ks++[.d kd]) (vs++[Cw G env x]))):=by
 have hmv:=Cu hm hG hE (by rw[hme];rfl)
 have hkv:=Cu hk hG hE (by rw[hke];rfl)
 have hxv:=Cu hx hG hE hxk
 rw[hme] at hmv
 rw[hke] at hkv
 have hkse:=Kc hkd
 obtain⟨kt,et,hund,f1⟩:=Bb8 (f:=fun kt _=>Fs P kt Uv) hc
 obtain⟨dk,hdk,hdk2⟩:=Dt f1
 have hdk3:P.underlying kt=some .string:=by cases dk<;>simp[Uv] at hdk2;exact hdk
 have hor:=hH.obj r _ hrow
 generalize hue:a.eval M=um at hmv
 cases hmv with
 |mref _ b e c hlt hp=>
  cases hor with
  |map _ _ b' e' c' es clock hp' hh hk1 hv1 hrk hrv=>
   rw[hp] at hp'
   simp only[Cdt,Cd2] at hp'
   obtain⟨rfl,rfl,rfl⟩:=hp'
   obtain⟨res,r1,r2⟩:=Ri hkv.dd kds vs es.toList 0 none hl (by rw[hkse] at hk1;simpa using hk1) (fun j hj=>by
    have:=hrk j (by rw[hk1,hkse];simpa using hj)
    rw[hkse,Dh kds j hj] at this
    simpa[Cda,Cd3] using this.dd)
   have hres:res=none:=by
    rcases r2 with⟨_,h⟩ | ⟨j,x,h,_⟩
    ·exact h
    ·simp at h
   subst hres
   have hfk: (Instr.findKey kt (a.eval K) es.toList).run P w= .ok none w:=by simp[Instr.findKey,run_underlying hdk3,r1]
   let w':World:= { w with heap:=w.heap.setIfInBounds b (.map (es.push { key:=a.eval K,val:=a.eval X,born:=clock }) (clock+1)) }
   have hbl:b<w.heap.size:=(Cd4.1 hh).1
   have hrun: (Instr.mapUpdate t (.map (some b)) (a.eval K) (a.eval X)).run P w= .ok () w':=by
    simp[Instr.mapUpdate,run_underlying hund,Nu f1,hfk,getObj,setObj,Sem.run,hh,w']
   have hbd:=fun m (hm:Bd m) (hlt:r<m)=>hH.bd m hm r _ hlt hrow
   obtain⟨q1,q2⟩:=hH.setMap (w':=w') (ks':=ks++[.d kd]) (vs':=vs++[Cw G env x]) hrow hp ⟨rfl,rfl,rfl⟩ (by simp[w']) (fun b'' hne=>by simp[w',Array.getElem?_setIfInBounds_ne (Ne.symm hne)]) (by simp[w',hbl];exact⟨rfl,rfl⟩) (by simp[hk1]) (by simp[hv1])
    (fun m hm i hi=>by
     have hi':i<es.size+1:=by simpa using hi
     rw[Bo4 es _ i hi',Bec ks _ i (by omega),Bec vs _ i (by omega)]
     by_cases hlt2:i<es.size
     ·rw[if_pos hlt2,if_pos (by omega),if_pos (by omega)]
      rcases hm with rfl| ⟨hm,hlt3⟩
      ·exact⟨hrk i hlt2,hrv i hlt2⟩
      ·have:=hbd m hm hlt3
       cases this with
       |map _ _ b2 e2 c2 es2 clock2 hp2 hh2 hk2 hv2 hrk2 hrv2=>
        rw[hp] at hp2
        simp only[Cdt,Cd2] at hp2
        obtain⟨rfl,rfl,rfl⟩:=hp2
        rw[hh] at hh2
        simp only[Cdt,Go.Obj.map.injEq] at hh2
        obtain⟨rfl,rfl⟩:=hh2
        exact⟨hrk2 i hlt2,hrv2 i hlt2⟩
     ·rw[if_neg hlt2,if_neg (by omega),if_neg (by omega)]
      exact⟨.d _ _ hkv.dd,Bcb hxv hok hn0 hm⟩)
   refine .skip (w':=w') ?_ ⟨q1, .und,q2,PlExt.refl _ _,by rw[Bt];omega⟩
   rcases ho with ho|ho<;> (simp only[execOp,ho,hue];rw[Sem.run_bind,hrun];rfl)
end
section
variable {P:Program} {w:World} {pl:Pl} {Bd:Nat→Prop} {H:Hp}
theorem Y8 {O:Gz} {b e i k c cap:Nat} {ds:List D} {arr:Array Value} {ty:TypeId} {fr:Nat×Nat} (hO: ¬O b) (hh:w.heap[b]? =some (.cells arr ty fr)) (hs:arr.size=c*e) (Bc:ds.length=k) (hc:i+k≤c) (hcap:k≤cap)
  (he: ∀j,j<k→(ds.getD j .nilp).cells.length=e) (hr: ∀j l,j<k→l<e→RD w O ((ds.getD j .nilp).cells.getD l .nilp) (arr.getD ((i+j)*e+l) undef)) (h1: ∀j l,j<k→l<e→(arr.getD ((i+j)*e+l) undef).oneCell'=true):
  RD w O (.vals e ds) (.slice (some ⟨b,i*e,none⟩) k cap):=by
 subst Bc
 refine .vals e ds b (i*e) cap (fun j l=>arr.getD ((i+j)*e+l) undef) hcap hO (Cd4.1 hh).1 he (fun j l hj hl=> ?_) h1 hr
 have:=Du (i:=i+j) (j:=l) (e:=e) (c:=c) (by omega) hl
 rw[show i*e+j*e+l=(i+j)*e+l by rw[Nat.add_mul]]
 exact F4 hh (by omega)
theorem Bkv {ds:List D} {i j:Nat} (hi:i<ds.length) (hj:j< (ds.getD i .nilp).cells.length): ((ds.map V.d).getD i .any).cells.getD j .any= .d ((ds.getD i .nilp).cells.getD j .nilp):=by
 rw[Dh ds i hi,Lm,Dh _ j hj]
theorem Gn {α β:Type} {f:α→Option β} {d:α} {d':β} : ∀ {xs:List α} {ys:List β},Gp f xs=some ys→ys.length=xs.length∧∀i,i<xs.length→f (xs.getD i d)=some (ys.getD i d')
 | [],ys,h=>by simp[Gp] at h;subst h;exact⟨rfl,fun i hi=>by simp at hi⟩
 |x::xs,ys,h=>by
  simp only[Gp] at h
  split at h
  ·rename_i b hb
   split at h
   ·rename_i bs hbs
    simp at h;subst h
    obtain⟨h1,h2⟩:=Gn hbs
    refine⟨by simp[h1],fun i hi=> ?_⟩
    cases i with
    |zero=>exact hb
    |succ i=>exact h2 i (by simpa using hi)
   ·simp at h
  ·simp at h
def Bnx:V→List Nat
 | .slc r _ _ _=> [r]
 | .ptr r _ _ _=> [r]
 |_=> []
theorem Yf (hH:HR w pl Bd H) {v:V} {x:D} (h:Kb H v=some x) {u:Value} (hu:RV w (Bl pl H) pl (Bc H) v u) {O':Gz} (E:Ext w (Bl pl H) w O') (hO: ∀r∈Bnx v,∀b,Gq pl H r=some b→¬O' b):RD w O' x u:=by
 unfold Kb at h
 split at h
 ·simp at h;subst h
  exact hu.dd.mono E
 ·simp at h;subst h
  cases hu;exact .vals0 _ _ _
 ·rename_i r g i k
  split at h
  ·rename_i e xs hrow
   split at h
   ·rename_i hle
    split at h
    ·rename_i ds hds
     simp at h;subst h
     have hxs:=Kc hds
     subst hxs
     obtain⟨b,c,arr,ty,fr,hpl,hh,hsa,hf,hxc,he,hr,h1,_⟩:=Jb hH hrow
     have hbl:Gq pl H r=some b:=by simp[Gq,Jp hrow,hpl]
     have hnb:=hO r (by simp[Bnx]) b hbl
     simp only[Cdo] at hle hxc he hr h1
     cases hu with
     |slc _ _ _ _ b' e2 c' hlt hp' hk=>
      rw[hpl] at hp'
      simp only[Cdt,Cd2] at hp'
      obtain⟨rfl,rfl,rfl⟩:=hp'
      have hg: ∀j,j<k→((ds.drop i).take k).getD j .nilp=ds.getD (i+j) .nilp:=fun j hj=>Ko ds .nilp i k j hj
      have hel: ∀j,j<ds.length→(ds.getD j .nilp).cells.length=e:=fun j hj=>by
       have:=he j hj
       rw[Dh ds j hj,Lm] at this
       simpa using this
      refine Y8 hnb hh hsa (by simp;omega) (by omega) (by omega) (fun j hj=>by rw[hg j hj];exact hel _ (by omega)) (fun j l hj hl=> ?_) (fun j l hj hl=>h1 _ _ (by omega) hl)
      rw[hg j hj]
      have:=hr (i+j) l (by omega) hl
      rw[Bkv (by omega) (by rw[hel _ (by omega)];exact hl)] at this
      exact this.dd.mono E
     |slc0 _ _ _ A cap hi hlt=>
      have: (ds.drop i).take 0=[]:=by simp
      rw[this]
      exact .vals0 _ _ _
    ·simp at h
   ·simp at h
  ·simp at h
 ·rename_i r g i j
  split at h
  ·rename_i e xs hrow
   split at h
   ·rename_i ds hds
    split at h
    ·rename_i hil
     simp only[Cdt] at h;subst h
     have hxs:=Kc hds
     subst hxs
     obtain⟨b,c,arr,ty,fr,hpl,hh,hsa,hf,hxc,he,hr,h1,_⟩:=Jb hH hrow
     have hbl:Gq pl H r=some b:=by simp[Gq,Jp hrow,hpl]
     have hnb:=hO r (by simp[Bnx]) b hbl
     simp only[Cdo] at hxc he hr h1
     have hel: (ds.getD i .nilp).cells.length=e:=by
      have:=he i hil
      rw[Dh ds i hil,Lm] at this
      simpa using this
     cases hu with
     |ptr _ _ _ _ b' e2 c' hlt hp'=>
      rw[hpl] at hp'
      simp only[Cdt,Cd2] at hp'
      obtain⟨rfl,rfl,rfl⟩:=hp'
      have hdl: ((ds.getD i .nilp).cells.drop j).length=e - j:=by simp only[List.length_drop,hel]
      refine .rptr _ b (i*e+j) (fun l=>arr.getD (i*e+(j+l)) undef) hnb (Cd4.1 hh).1 (fun l hl=> ?_) (fun l hl=>h1 i (j+l) hil (by omega)) (fun l hl=> ?_)
      ·have:=Du (i:=i) (j:=j+l) (e:=e) (c:=c) (by omega) (by omega)
       rw[Nat.add_assoc]
       exact F4 hh (by omega)
      ·have:=hr i (j+l) hil (by omega)
       rw[Bkv hil (by rw[hel];omega)] at this
       have h2:=this.dd.mono E
       simpa[Cda] using h2
    ·simp at h
   ·simp at h
  ·simp at h
 ·simp at h
theorem Bzw (hH:HR w pl Bd H) {n:Nat} {O':Gz} (E:Ext w (Bl pl H) w O') (hO: ∀r,n≤r→∀b,Gq pl H r=some b→¬O' b): ∀ (d:Nat) (v:V) (x:D) (u:Value),fz n d H v=some x→RV w (Bl pl H) pl (Bc H) v u→RD w O' x u:=by
 intro d
 induction d with
 |zero=>
  intro v x u h hu
  simp only[fz] at h
  split at h
  ·simp at h;subst h;exact hu.dd.mono E
  ·simp at h
 |succ d ih=>
  intro v x u h hu
  simp only[fz] at h
  split at h
  ·simp at h;subst h;exact hu.dd.mono E
  ·simp at h;subst h
   cases hu;exact .vals0 _ _ _
  ·split at h
   ·rename_i cs xs hxs
    simp at h;subst h
    obtain⟨h1,h2⟩:=Gn (d:=V.any) (d':=D.nilp) hxs
    cases hu with
    |agg _ us hl h1' hu=>exact .agg xs us (by omega) (fun i hi=>h1' i (by omega)) fun i hi=>ih _ _ _ (h2 i (by omega)) (hu i (by omega))
   ·simp at h
  ·rename_i r g i k
   split at h
   ·simp at h
   ·rename_i hnr
    split at h
    ·rename_i e xs hrow
     split at h
     ·rename_i hle
      split at h
      ·rename_i ys hys
       simp at h;subst h
       obtain⟨m1,m2⟩:=Gn (d:=V.any) (d':=D.nilp) hys
       obtain⟨b,c,arr,ty,fr,hpl,hh,hsa,hf,hxc,he,hr,h1,_⟩:=Jb hH hrow
       have hbl:Gq pl H r=some b:=by simp[Gq,Jp hrow,hpl]
       have hnb:=hO r (by omega) b hbl
       have hlk: ((xs.drop i).take k).length=k:=by simp;omega
       have hg: ∀j,j<k→((xs.drop i).take k).getD j .any=xs.getD (i+j) .any:=fun j hj=>Ko xs .any i k j hj
       cases hu with
       |slc _ _ _ _ b' e2 c' hlt hp' hk=>
        rw[hpl] at hp'
        simp only[Cdt,Cd2] at hp'
        obtain⟨rfl,rfl,rfl⟩:=hp'
        have hel: ∀j,j<k→∃us:Array Value,(us.size=e∧∀l,l<e→us.getD l undef=arr.getD ((i+j)*e+l) undef)∧
          ((ys.getD j .nilp).cells.length=e∧∀l,l<e→RD w O' ((ys.getD j .nilp).cells.getD l .nilp) (us.getD l undef)):=by
         intro j hj
         have hz:=m2 j (by omega)
         rw[hg j hj] at hz
         have hce:=he (i+j) (by omega)
         let us:Array Value:=((List.range e).map fun l=>arr.getD ((i+j)*e+l) undef).toArray
         have husg: ∀l,l<e→us.getD l undef=arr.getD ((i+j)*e+l) undef:=fun l hl=>by
          have hsz:l<us.size:=by simp[us,hl]
          rw[Cd3,Cd5 hsz]
          simp[us]
         have hrc:RCs w (Bl pl H) pl (Bc H) (xs.getD (i+j) .any).cells us:=⟨by rw[hce];simp[us],fun l hl=>by rw[husg l (by omega)];exact hr _ _ (by omega) (by omega),fun l hl=>by rw[husg l (by omega)];exact h1 _ _ (by omega) (by omega)⟩
         refine⟨us,⟨by simp[us],husg⟩, ?_⟩
         by_cases hag: (xs.getD (i+j) .any).isAgg=true
         ·have hrv:RV w (Bl pl H) pl (Bc H) (xs.getD (i+j) .any) (.agg us):=by
           generalize xs.getD (i+j) .any=y at hag hrc
           cases y<;>simp[V.isAgg] at hag
           ·rename_i y;cases y<;>simp[V.isAgg] at hag
            rename_i cs
            refine .d _ _ (.agg cs us (by simpa[V.cells] using hrc.size) (fun l hl=>hrc.one l (by simpa[V.cells] using hl)) fun l hl=> ?_)
            have:=hrc.rel l (by simpa[V.cells] using hl)
            simp only[V.cells] at this
            rw[Dh cs l hl] at this
            exact this.dd
           ·rename_i cs
            exact .agg cs us hrc.size hrc.one hrc.rel
          have hx:=(ih _ _ _ hz hrv).cells
          have hs:us.size=(ys.getD j .nilp).cells.length:=hx.1
          have hus:us.size=e:=by simp[us]
          exact⟨by omega,fun l hl=> (hx.2 l (by omega)).1⟩
         ·have hag': (xs.getD (i+j) .any).isAgg=false:=by simpa using hag
          have hc1:=Q9 hag'
          rw[hc1] at hce
          have he1:e=1:=by simpa using hce.symm
          have hrv:=hrc.rel 0 (by rw[hc1];simp)
          have hone:=hrc.one 0 (by rw[hc1];simp)
          rw[hc1] at hrv
          simp only[List.getD_cons_zero] at hrv
          have hx:=(ih _ _ _ hz hrv).cells
          have hus: (us.getD 0 undef).cells= #[us.getD 0 undef]:=by
           generalize us.getD 0 undef=q at hone
           cases q<;>first|rfl|simp[Value.oneCell'] at hone
          rw[hus] at hx
          have h0:=hx.1
          refine⟨by rw[he1];simpa using h0.symm,fun l hl=> ?_⟩
          obtain rfl:l=0:=by omega
          have:=(hx.2 0 (by rw[←h0];simp)).1
          simpa using this
        refine Y8 hnb hh hsa (by omega) (by omega) (by omega) (fun j hj=> (hel j hj).choose_spec.2.1) (fun j l hj hl=> ?_) (fun j l hj hl=>h1 _ _ (by omega) hl)
        obtain⟨us,⟨_,hg2⟩,_,h3⟩:=hel j hj
        rw[←hg2 l hl]
        exact h3 l hl
       |slc0 _ _ _ A cap hi hlt=>
        have:ys=[]:=Cdk (by omega)
        subst this
        exact .vals0 _ _ _
      ·simp at h
     ·simp at h
    ·simp at h
  ·rename_i r g i j
   split at h
   ·simp at h
   ·rename_i hnr
    split at h
    ·rename_i e xs hrow
     split at h
     ·rename_i y hy
      split at h
      ·rename_i ys hys
       simp at h;subst h
       obtain⟨m1,m2⟩:=Gn (d:=V.any) (d':=D.nilp) hys
       obtain⟨b,c,arr,ty,fr,hpl,hh,hsa,hf,hxc,he,hr,h1,_⟩:=Jb hH hrow
       have hbl:Gq pl H r=some b:=by simp[Gq,Jp hrow,hpl]
       have hnb:=hO r (by omega) b hbl
       have hil:i<xs.length:=(List.getElem?_eq_some_iff.1 hy).1
       have hyd:xs.getD i .any=y:=by simp[Cda,hy]
       have hye:y.cells.length=e:=by rw[←hyd];exact he i hil
       cases hu with
       |ptr _ _ _ _ b' e2 c' hlt hp'=>
        rw[hpl] at hp'
        simp only[Cdt,Cd2] at hp'
        obtain⟨rfl,rfl,rfl⟩:=hp'
        have hdl:ys.length=e - j:=by rw[m1];simp only[List.length_drop,hye]
        refine .rptr _ b (i*e+j) (fun l=>arr.getD (i*e+(j+l)) undef) hnb (Cd4.1 hh).1 (fun l hl=> ?_) (fun l hl=>h1 i (j+l) hil (by omega)) (fun l hl=> ?_)
        ·have:=Du (i:=i) (j:=j+l) (e:=e) (c:=c) (by omega) (by omega)
         rw[Nat.add_assoc]
         exact F4 hh (by omega)
        ·have hz:=m2 l (by omega)
         have h2:=hr i (j+l) hil (by omega)
         rw[hyd] at h2
         refine ih _ _ _ hz ?_
         simpa[Cda] using h2
      ·simp at h
     ·simp at h
    ·simp at h
  ·split at h
   ·rename_i f caps xs hxs
    simp at h;subst h
    obtain⟨h1,h2⟩:=Gn (d:=V.any) (d':=D.nilp) hxs
    cases hu with
    |fn _ _ us hl hu=>exact .fn _ xs us (by omega) fun i hi=>ih _ _ _ (h2 i (by omega)) (hu i (by omega))
   ·simp at h
  ·rename_i r
   split at h
   ·simp at h
   ·rename_i hnr
    split at h
    ·rename_i ks vs hrow
     split at h
     ·rename_i p q hp hq
      simp at h;subst h
      obtain⟨p1,p2⟩:=Gn (d:=V.any) (d':=D.nilp) hp
      obtain⟨q1,q2⟩:=Gn (d:=V.any) (d':=D.nilp) hq
      have hor:=hH.obj r _ hrow
      cases hor with
      |map _ _ b e c es clock hpl hh hk hv hrk hrv=>
       have hbl:Gq pl H r=some b:=by simp[Gq,hrow,hpl]
       have hnb:=hO r (by omega) b hbl
       cases hu with
       |mref _ b' e' c' hlt hp'=>
        rw[hpl] at hp'
        simp only[Cdt,Cd2] at hp'
        obtain⟨rfl,rfl,rfl⟩:=hp'
        exact .mval _ _ b es clock hnb (Cd4.1 hh).1 hh (by omega) (by omega) (fun i hi=>ih _ _ _ (p2 i (by omega)) (hrk i hi)) (fun i hi=>ih _ _ _ (q2 i (by omega)) (hrv i hi))
     ·simp at h
    ·simp at h
  ·simp at h
theorem By6 (hH:HR w pl Bd H) {v:V} {x:D} (h:Sb H v=some x) {u:Value} (hu:RV w (Bl pl H) pl (Bc H) v u) {O':Gz} (E:Ext w (Bl pl H) w O') (hO: ∀r b,Gq pl H r=some b→¬O' b):RD w O' x u:=by
 unfold Sb at h
 split at h
 ·rename_i f caps
  split at h
  ·rename_i xs hxs
   simp at h;subst h
   obtain⟨h1,h2⟩:=Gn (d:=V.any) (d':=D.nilp) hxs
   cases hu with
   |fn _ _ us hl hu=>
    refine .fn f xs us (by omega) fun i hi=>Yf hH (h2 i (by omega)) (hu i (by omega)) E fun r hr b hb=>hO r b hb
  ·simp at h
 ·rename_i cs
  split at h
  ·rename_i xs hxs
   simp at h;subst h
   obtain⟨h1,h2⟩:=Gn (d:=V.any) (d':=D.nilp) hxs
   cases hu with
   |agg _ us hl ho hu=>
    refine .agg xs us (by omega) (fun i hi=>ho i (by omega)) fun i hi=>Yf hH (h2 i (by omega)) (hu i (by omega)) E fun r hr b hb=>hO r b hb
  ·simp at h
 ·split at h
  ·rename_i y hy
   simp only[Cdt] at h;subst h
   exact Yf hH hy hu E fun r hr b hb=>hO r b hb
  ·exact Bzw hH (n:=0) E (fun r _ b hb=>hO r b hb) _ _ _ _ h hu
end
def RVs (w:World) (O:Gz) (pl:Pl) (n:Nat) (vs:List V) (us:Array Value):Prop:=
 us.size=vs.length∧∀i,i<vs.length→RV w O pl n (vs.getD i .any) (us.getD i undef)
def FnOk (P:Program) (k:Nat):Prop:=∃fn:Func,P.funcs[k]? =some fn∧(fn.name== "runtime.NumGoroutine")=false∧fn.body.isSome=true
def Fg (P:Program) (G:Gi) (cl:D6):Prop:=
 ∀k args H v H',cl k args H=some (v,H')→FnOk P k∧
  ∀ (w:World) (pl:Pl) (Bd:Nat→Prop) (us:Array Value),HR w pl Bd H→GR G w (Bl pl H)→RVs w (Bl pl H) pl (Bc H) args us→
   Calls P k us w fun e w'=> ∃u pl',e= .returned u∧Fin w pl Bd H v H' u w' pl'
section
variable {P:Program} {cl:D6} {G:Gi} {w:World} {pl:Pl} {Bd:Nat→Prop} {H:Hp} {env:Env} {a:Act}
theorem FnOk.enters {k:Nat} (h:FnOk P k) (args:Array Value) (w:World): (callFunc k args).run P w= .ok (.enter k args) w:=by
 obtain⟨fn,hf,hname,hb⟩:=h
 have h1:fn.name≠ "runtime.NumGoroutine":=by simpa using hname
 obtain⟨c,hc⟩:=Option.isSome_iff_exists.1 hb
 simp[callFunc,hf,h1,hc]
theorem RVs.append {O:Gz} {n:Nat} {vs ws:List V} {us xs:Array Value} (h:RVs w O pl n vs us) (k:RVs w O pl n ws xs):RVs w O pl n (vs++ws) (us++xs):=by
 obtain⟨h1,h2⟩:=h
 obtain⟨k1,k2⟩:=k
 refine⟨by simp[h1,k1],fun i hi=> ?_⟩
 by_cases hl:i<vs.length
 ·have e1: (vs++ws).getD i .any=vs.getD i .any:=by simp[Cda,List.getElem?_append_left hl]
  have e2: (us++xs).getD i undef=us.getD i undef:=by
   rw[Cd3,Cd3,Array.getElem?_append_left (by omega)]
  rw[e1,e2];exact h2 i hl
 ·have e1: (vs++ws).getD i .any=ws.getD (i - vs.length) .any:=by simp[Cda,List.getElem?_append_right (Nat.le_of_not_lt hl)]
  have e2: (us++xs).getD i undef=xs.getD (i - vs.length) undef:=by
   rw[Cd3,Cd3,Array.getElem?_append_right (by omega),h1]
  rw[e1,e2]
  exact k2 _ (by simp at hi;omega)
theorem RVs.mono {w':World} {O O':Gz} {pl':Pl} {n n':Nat} (E:Ext w O w' O') (hp:PlExt n pl pl') (hn:n≤n') {vs:List V} {us:Array Value} (h:RVs w O pl n vs us):RVs w' O' pl' n' vs us:=
 ⟨h.1,fun i hi=> (h.2 i hi).mono E hp hn⟩
theorem Bk8 {r b:Nat} (hH:HR w pl Bd H) (hb:Gq pl H r=some b): ¬Bl pl (Bw H r .dead) b:=by
 rintro⟨r',hr'⟩
 by_cases hne:r'=r
 ·subst hne
  obtain⟨o,ho⟩:=Qc hr'
  have:=Fu ho
  rw[Bt] at this
  unfold Gq at hr'
  rw[Cn _ this] at hr'
  simp at hr'
 ·have hb':Gq pl H r'=some b:=by
   unfold Gq at hr'⊢
   rwa[F5 _ hne] at hr'
  exact hne (hH.inj r' r b hb' hb)
theorem Y0 (k:Bool) (x:AOpd) (r:List (Bool×AOpd)):Uo G env H ((k,x)::r)=(match Zn H k (Cw G env x) with
  |some (v,H)=> (match Uo G env H r with|some (vs,H)=>some (v::vs,H) |none=>none)
  |none=>none):=rfl
theorem Bhv (hH:HR w pl Bd H) {k:Bool} {v v':V} {H':Hp} (h:Zn H k v=some (v',H')):v.ok=true∧HR w pl Bd H'∧Ext w (Bl pl H) w (Bl pl H')∧Bc H'=Bc H∧
  ∀u,RV w (Bl pl H) pl (Bc H) v u→RV w (Bl pl H') pl (Bc H) v' u:=by
 unfold Zn at h
 split at h
 ·rename_i r g i n
  split at h
  ·rename_i x hx
   simp only[Cdt,Cd2] at h
   obtain⟨rfl,rfl⟩:=h
   obtain⟨h1,h2⟩:=hH.kill r
   refine⟨rfl,h1,h2,Bt ..,fun u hu=> .d _ _ (Yf hH hx hu h2 fun r' hr' b hb=> ?_)⟩
   simp only[Bnx,List.mem_singleton] at hr'
   subst hr'
   exact Bk8 hH hb
  ·simp at h
 ·split at h
  ·rename_i hok
   simp only[Cdt,Cd2] at h
   obtain⟨rfl,rfl⟩:=h
   exact⟨hok,hH,Ext.refl _ _,rfl,fun u hu=>hu⟩
  ·simp at h
theorem Bar: ∀ (ags:List (Bool×AOpd)) (os:List Operand) (H:Hp) (vs:List V) (H':Hp),Qb ags os=true→HR w pl Bd H→GR G w (Bl pl H)→RE w (Bl pl H) pl (Bc H) env a→
  Uo G env H ags=some (vs,H')→HR w pl Bd H'∧Ext w (Bl pl H) w (Bl pl H')∧Bc H'=Bc H∧RVs w (Bl pl H') pl (Bc H) vs (os.map a.eval).toArray
 | [],[],H,vs,H',_,hH,_,_,h=>by
  simp only[Uo,Cdt,Cd2] at h
  obtain⟨rfl,rfl⟩:=h
  exact⟨hH,Ext.refl _ _,rfl,rfl,fun i hi=>by simp at hi⟩
 | [],_::_,_,_,_,hc,_,_,_,_=>by simp[Qb] at hc
 | (_,_)::_,[],_,_,_,hc,_,_,_,_=>by simp[Qb] at hc
 | (k,x)::ags,o::os,H,vs,H',hc,hH,hG,hE,h=>by
  simp only[Qb,Cdv] at hc
  rw[Y0] at h
  split at h
  ·rename_i v H1 h1
   obtain⟨hok,hH1,E1,hl1,hv⟩:=Bhv hH h1
   split at h
   ·rename_i vs' H2 h2
    simp only[Cdt,Cd2] at h
    obtain⟨rfl,rfl⟩:=h
    obtain⟨hH2,E2,hl2,hv1,hv2⟩:=Bar ags os H1 vs' H2 hc.2 hH1 (hG.mono E1) (by rw[hl1];exact hE.mono E1 (PlExt.refl _ _) (Cd7 _)) h2
    refine⟨hH2,E1.trans E2,by omega,by simpa using hv1,fun i hi=> ?_⟩
    cases i with
    |zero=>
     have:=(hv _ (Cu hc.1 hG hE hok)).mono E2 (PlExt.refl _ _) (Cd7 _)
     simpa using this
    |succ i=>
     have:=hv2 i (by simpa using hi)
     rw[hl1] at this
     simpa using this
   ·simp at h
  ·simp at h
theorem Bnh: ∀ (ts:List Nat) {e e':Env} {H H':Hp},HR w pl Bd H→RE w (Bl pl H) pl (Bc H) e a→Bft ts e H=some (e',H')→HR w pl Bd H'∧Ext w (Bl pl H) w (Bl pl H')∧Bc H'=Bc H∧RE w (Bl pl H') pl (Bc H) e' a
 | [],e,e',H,H',hH,hE,h=>by
  simp only[Bft,Cdt,Cd2] at h
  obtain⟨rfl,rfl⟩:=h
  exact⟨hH,Ext.refl _ _,rfl,hE⟩
 |t::ts,e,e',H,H',hH,hE,h=>by
  simp only[Bft] at h
  split at h
  ·rename_i v H1 h1
   obtain⟨hok,hH1,E1,hl1,hv⟩:=Bhv hH h1
   have hE1:RE w (Bl pl H1) pl (Bc H1) ((t,v)::e) a:=by
    rw[hl1]
    intro k hk
    simp only[Env.get] at hk⊢
    cases hb:Nat.beq t k with
    |true=>
     have:=Cd6 hb
     subst this
     exact hv _ (hE t hok)
    |false=>
     rw[hb] at hk
     exact(hE k hk).mono E1 (PlExt.refl _ _) (Cd7 _)
   obtain⟨k1,k2,k3,k4⟩:=Bnh ts hH1 hE1 h
   rw[hl1] at k3 k4
   exact⟨k1,E1.trans k2,k3,k4⟩
  ·simp at h
theorem Bk9 {n r b:Nat} (hH:HR w pl Bd H) (hr:n≤r) (hb:Gq pl H r=some b): ¬Bl pl (Cx H n) b:=by
 rintro⟨r',hr'⟩
 obtain⟨o,ho⟩:=Qc hr'
 obtain⟨hlt,ho'⟩:=Gs ho
 have hb':Gq pl H r'=some b:=by
  unfold Gq at hr'⊢
  rwa[Ro hlt] at hr'
 have:=hH.inj r' r b hb' hb
 omega
theorem Bsm (hH:HR w pl Bd H) {n:Nat} (hn:Bd n) {v v':V} (h:Yz n H v=some v') {u:Value} (hu:RV w (Bl pl H) pl (Bc H) v u):RV w (Bl pl (Cx H n)) pl n v' u:=by
 have E:=(hH.take n hn (Bd':=fun _=>False) (fun _ h=>h.elim)).2
 have hO: ∀r,n≤r→∀b,Gq pl H r=some b→¬Bl pl (Cx H n) b:=fun r hr b hb=>Bk9 hH hr hb
 have key: ∀ {x:D},fz n Pb H v=some x→RV w (Bl pl (Cx H n)) pl n (.d x) u:=fun hx=> .d _ _ (Bzw hH E hO Pb v _ u hx hu)
 unfold Yz at h
 split at h
 ·simp only[Cdt] at h;subst h
  exact .d _ _ (hu.dd.mono E)
 ·split at h
  ·rename_i hlt
   simp only[Cdt] at h;subst h
   cases hu with
   |slc _ _ _ _ b e c _ hp hk=>exact .slc _ _ _ _ b e c hlt hp hk
   |slc0 _ _ _ A cap hi _=>exact .slc0 _ _ _ A cap hi hlt
  ·split at h
   ·rename_i x hx
    simp only[Cdt] at h;subst h
    exact key hx
   ·simp at h
 ·split at h
  ·rename_i hlt
   simp only[Cdt] at h;subst h
   cases hu with
   |ptr _ _ _ _ b e c _ hp=>exact .ptr _ _ _ _ b e c hlt hp
  ·split at h
   ·rename_i x hx
    simp only[Cdt] at h;subst h
    exact key hx
   ·simp at h
 ·split at h
  ·rename_i x hx
   simp only[Cdt] at h;subst h
   exact key hx
  ·simp at h
theorem Bsj (hH:HR w pl Bd H) {n:Nat} (hn:Bd n) {v v':V} (h:fzA n H v=some v') {u:Value} (hu:RV w (Bl pl H) pl (Bc H) v u):RV w (Bl pl (Cx H n)) pl n v' u:=by
 have E:=(hH.take n hn (Bd':=fun _=>False) (fun _ h=>h.elim)).2
 unfold fzA at h
 split at h
 ·simp only[Cdt] at h;subst h
  exact .d _ _ (hu.dd.mono E)
 ·rename_i cs
  split at h
  ·rename_i xs hxs
   simp only[Cdt] at h;subst h
   obtain⟨h1,h2⟩:=Gn (d:=V.any) (d':=V.any) hxs
   cases hu with
   |agg _ us hl ho hr=>exact RCs.mkAgg ⟨by omega,fun i hi=>Bsm hH hn (h2 i (by omega)) (hr i (by omega)),fun i hi=>ho i (by omega)⟩
  ·simp at h
 ·exact Bsm hH hn h hu
theorem Bku (hH:HR w pl Bd H) {n:Nat} (hn:Bd n) {v v':V} (h:fzV n H v=some v') {u:Value} (hu:RV w (Bl pl H) pl (Bc H) v u):RV w (Bl pl (Cx H n)) pl n v' u:=by
 unfold fzV at h
 split at h
 ·rename_i cs
  split at h
  ·rename_i xs hxs
   simp only[Cdt] at h;subst h
   obtain⟨h1,h2⟩:=Gn (d:=V.any) (d':=V.any) hxs
   cases hu with
   |tup _ us hl hr=>exact .tup _ _ (by omega) fun i hi=>Bsj hH hn (h2 i (by omega)) (hr i (by omega))
  ·simp at h
 ·exact Bsj hH hn h hu
def callee (v:V):Option (Nat×List V):=match v with| .d (.fn (.func k) caps)=>some (k,caps.map V.d) | .fn (.func k) caps=>some (k,caps) |_=>none
theorem T9 {O:Gz} {n:Nat} {v:V} {k:Nat} {caps:List V} (h:callee v=some (k,caps)) {u:Value} (hu:RV w O pl n v u):v.ok=true∧∃us,u= .func (.func k) #[] us∧RVs w O pl n caps us:=by
 unfold callee at h
 split at h
 ·simp only[Cdt,Cd2] at h
  obtain⟨rfl,rfl⟩:=h
  refine⟨rfl, ?_⟩
  have:=hu.dd
  cases this with
  |fn _ _ us hl hr=>exact⟨us,rfl,by simp[hl],fun i hi=>by rw[Dh _ i (by simpa using hi)];exact .d _ _ (hr i (by simpa using hi))⟩
 ·simp only[Cdt,Cd2] at h
  obtain⟨rfl,rfl⟩:=h
  refine⟨rfl, ?_⟩
  cases hu with
  |fn _ _ us hl hr=>exact⟨us,rfl,hl,hr⟩
 ·simp at h
theorem Xa {v:V} {k:Nat} {caps:List V} (h:callee v=some (k,caps)):v.ok=true:=by
 unfold callee at h
 split at h<;>first|rfl|simp at h
theorem Ya {o:Oper} {F:Operand} {A:Array Operand} {ts:Array TypeId} (ho:o.op= .call { callee:= .value F,args:=A,argTypes:=ts }) {k:Nat} {us:Array Value} (hF:a.eval F= .func (.func k) #[] us) (hk:FnOk P k):
  (execOp a.eval o).run P w= .ok (.enter k (A.map a.eval++us)) w:=by
 have he:=hk.enters (A.map a.eval++us) w
 simp only[execOp,ho,resolve,hF,Deferred.ofValue,Sem.run_bind,Sem.run_pure,invoke,Array.empty_append]
 exact he
theorem Fin.from {H1:Hp} (E:Ext w (Bl pl H) w (Bl pl H1)) (hl:Bc H1=Bc H) {v:V} {H':Hp} {u:Value} {w':World} {pl':Pl} (h:Fin w pl Bd H1 v H' u w' pl'):Fin w pl Bd H v H' u w' pl':=
 ⟨h.hr,h.rv,E.trans h.ext,by rw[←hl];exact h.ple,by rw[←hl];exact h.le⟩
theorem Bt7 (hcl:Fg P G cl) (hG:GR G w (Bl pl H)) (hH:HR w pl Bd H) (hE:RE w (Bl pl H) pl (Bc H) env a) {o:Oper} {F:Operand} {A:Array Operand} {ts:Array TypeId} (ho:o.op= .call { callee:= .value F,args:=A,argTypes:=ts })
  {f:AOpd} {ags:List (Bool×AOpd)} (hf:Cb f F=true) (ha:Qb ags A.toList=true) {k:Nat} {caps:List V} (hc:callee (Cw G env f)=some (k,caps)) {vs:List V} {H1:Hp} (hh:Uo G env H ags=some (vs,H1))
  {v:V} {H2:Hp} (hr:cl k (vs++caps) H1=some (v,H2)):OpSim P o a w pl Bd H v H2:=by
 have hfv:=Cu hf hG hE (Xa hc)
 obtain⟨_,us,hfe,hcaps⟩:=T9 hc hfv
 obtain⟨hH1,E1,hl1,hvs⟩:=Bar ags A.toList H vs H1 ha hH hG hE hh
 obtain⟨hok,hcall⟩:=hcl _ _ _ _ _ hr
 intro next Q hn
 unfold Oper.wp
 rw[Ya ho hfe hok,Oper.upon_enter]
 have hargs: (A.toList.map a.eval).toArray=A.map a.eval:=by cases A;simp
 rw[hargs] at hvs
 refine(hcall w pl Bd _ hH1 (hG.mono E1) (by rw[hl1];exact hvs.append (hcaps.mono E1 (PlExt.refl _ _) (Cd7 _)))).mono fun e w' he=> ?_
 obtain⟨u,pl',rfl,hfin⟩:=he
 exact hn u w' pl' (hfin.from E1 hl1)
theorem Bqc (hcl:Fg P G cl) (hG:GR G w (Bl pl H)) (hH:HR w pl Bd H) (hE:RE w (Bl pl H) pl (Bc H) env a) {o:Oper} {F:Operand} {A:Array Operand} {ts:Array TypeId} (ho:o.op= .call { callee:= .value F,args:=A,argTypes:=ts })
  {f:AOpd} {ags:List (Bool×AOpd)} (hf:Cb f F=true) (ha:Qb ags A.toList=true) {k:Nat} {caps:List V} (hc:callee (Cw G env f)=some (k,caps)) {vs:List V} {H1:Hp} (hh:Uo G env H ags=some (vs,H1))
  {v v':V} {H2:Hp} (hr:cl k (vs++caps) H1=some (v,H2)) (hz:fzV (Bc H1) H2 v=some v'):OpSim P o a w pl Bd H v' (Cx H2 (Bc H1)):=by
 have hfv:=Cu hf hG hE (Xa hc)
 obtain⟨_,us,hfe,hcaps⟩:=T9 hc hfv
 obtain⟨hH1,E1,hl1,hvs⟩:=Bar ags A.toList H vs H1 ha hH hG hE hh
 obtain⟨hok,hcall⟩:=hcl _ _ _ _ _ hr
 intro next Q hn
 unfold Oper.wp
 rw[Ya ho hfe hok,Oper.upon_enter]
 have hargs: (A.toList.map a.eval).toArray=A.map a.eval:=by cases A;simp
 rw[hargs] at hvs
 refine(hcall w pl _ _ hH1.enter (hG.mono E1) (by rw[hl1];exact hvs.append (hcaps.mono E1 (PlExt.refl _ _) (Cd7 _)))).mono fun e w' he=> ?_
 obtain⟨u,pl',rfl,hfin⟩:=he
 have hle:=hfin.le
 obtain⟨t1,t2⟩:=hfin.hr.take (Bc H1) (Or.inr rfl) (Bd':=Bd) (fun m hm=> ⟨Or.inl hm,by have:=hH.le m hm;omega⟩)
 refine hn u w' pl' ⟨t1, ?_,E1.trans (hfin.ext.trans t2),by rw[←hl1];exact hfin.ple,by rw[F6 hle];omega⟩
 rw[F6 hle]
 exact Bku hfin.hr (Or.inr rfl) hz hfin.rv
theorem HR.none (w:World) (pl:Pl):HR w pl (fun _=>False) []:=by
 refine⟨fun r o h=> ?_,fun r r' b h=> ?_,fun m h=>h.elim,fun m h=>h.elim⟩
 ·simp[Cc] at h
 ·simp[Gq,Cc] at h
theorem Mh (pl:Pl) (b:Nat): ¬Bl pl [] b:=fun ⟨r,h⟩=>by simp[Gq,Cc] at h
theorem HR.mono_all {w':World} (hH:HR w pl Bd H) (E:Ext w (fun _=>False) w' (fun _=>False)):HR w' pl Bd H∧Ext w (Bl pl H) w' (Bl pl H):=by
 have E':Ext w (Bl pl H) w' (Bl pl H):=⟨E.os,E.tape,E.output,E.size,fun b hb hO=> ⟨(E.keep b hb (fun h=>h)).1,hO⟩⟩
 refine⟨⟨fun r o ho=> ?_,hH.inj,fun m hm r o hlt ho=> ?_,hH.le⟩,E'⟩
 ·have hor:=hH.obj r o ho
  cases hor with
  |dead=>exact .dead
  |row g e xs b c arr ty fr hp hh hs hf hx he hr h1 hg=>
   exact .row g e xs b c arr ty fr hp ((E.keep b (Cd4.1 hh).1 (fun h=>h)).1.trans hh) hs hf hx he (fun i j hi hj=> (hr i j hi hj).mono E' (PlExt.refl _ _) (Cd7 _)) h1 hg
  |map ks vs b e c es clock hp hh hk hv hrk hrv=>
   exact .map ks vs b e c es clock hp ((E.keep b (Cd4.1 hh).1 (fun h=>h)).1.trans hh) hk hv (fun i hi=> (hrk i hi).mono E' (PlExt.refl _ _) (Cd7 _)) (fun i hi=> (hrv i hi).mono E' (PlExt.refl _ _) (Cd7 _))
 ·have hor:=hH.bd m hm r o hlt ho
  cases hor with
  |dead=>exact .dead
  |row g e xs b c arr ty fr hp hh hs hf hx he hr h1 hg=>
   exact .row g e xs b c arr ty fr hp ((E.keep b (Cd4.1 hh).1 (fun h=>h)).1.trans hh) hs hf hx he (fun i j hi hj=> (hr i j hi hj).mono E' (PlExt.refl _ _) (Cd7 _)) h1 hg
  |map ks vs b e c es clock hp hh hk hv hrk hrv=>
   exact .map ks vs b e c es clock hp ((E.keep b (Cd4.1 hh).1 (fun h=>h)).1.trans hh) hk hv (fun i hi=> (hrk i hi).mono E' (PlExt.refl _ _) (Cd7 _)) (fun i hi=> (hrv i hi).mono E' (PlExt.refl _ _) (Cd7 _))
theorem Bhr {x:D} (h:Xm x=true) {w':World} {O O':Gz} {u:Value} (hu:RD w O x u):RD w' O' x u:=by
 cases hu<;>simp[Xm] at h
 ·exact .bool _
 ·exact .int _ _
 ·rename_i hs;exact .str _ _ hs
theorem Bo2 {v:V} (h:Zm v=true) {w':World} {O O':Gz} {pl':Pl} {n n':Nat} {u:Value} (hu:RV w O pl n v u):RV w' O' pl' n' v u:=by
 unfold Zm at h
 split at h
 ·exact .d _ _ (Bhr h hu.dd)
 ·rename_i vs
  cases hu with
  |tup _ us hl hr=>
   refine .tup vs us hl fun i hi=> ?_
   have hx:=Cdl.1 h (vs.getD i .any) (by rw[Cda];simp[hi])
   have hri:=hr i hi
   generalize vs.getD i .any=y at hx hri
   cases y<;>simp at hx
   exact .d _ _ (Bhr hx hri.dd)
 ·simp at h
theorem Dr {k:Nat} {args:List V} {v:V} (h:Be cl k args=some v) (H:Hp):cl k args H=some (v,H):=by
 unfold Be at h
 split at h
 ·rename_i hx
  simp only[Cdt] at h
  subst h
  exact hx.choose_spec H
 ·simp at h
theorem Rp {w:World} {O:Gz} {pl:Pl} {n:Nat} {H:Hp} {y:V} {x:D} {u:Value} (hd:Mm y=true) (hv:Kb H y=some x) (hr:RV w O pl n y u):RD w O x u:=by
 cases y<;>simp[Mm] at hd
 ·simp only[Kb,Cdt] at hv
  subst hv
  exact hr.dd
 ·simp only[Kb,Cdt] at hv
  subst hv
  cases hr
  exact .vals0 _ _ _
theorem Zo {w:World} {O:Gz} {pl:Pl} {n:Nat} {H:Hp} {y:V} {x:D} {u:Value} (hd:J6 y=true) (hv:Sb H y=some x) (hr:RV w O pl n y u):RD w O x u:=by
 cases y with
 |d z=>exact Rp (H:=H) (y:= .d z) rfl (by simpa[Sb,Kb] using hv) hr
 |nils e=>exact Rp (H:=H) (y:= .nils e) rfl (by simpa[Sb,Kb] using hv) hr
 |agg cs=>
  simp only[J6] at hd
  simp only[Sb] at hv
  split at hv
  ·rename_i xs hxs
   simp only[Cdt] at hv
   subst hv
   obtain⟨h1,h2⟩:=Gn (d:=V.any) (d':=D.nilp) hxs
   cases hr with
   |agg _ us hl hone hrr=>
    refine .agg xs us (by omega) (fun i hi=>hone i (by omega)) fun i hi=> ?_
    have hi':i<cs.length:=by omega
    refine Rp ?_ (h2 i hi') (hrr i hi')
    refine Cdl.1 hd _ ?_
    rw[Cda,Cdh hi',Cdu]
    exact Cdr _
  ·simp at hv
 |tup _=>simp[J6] at hd
 |slc _ _ _ _=>simp[J6] at hd
 |ptr _ _ _ _=>simp[J6] at hd
 |fn _ _=>simp[J6] at hd
 |mref _=>simp[J6] at hd
 |und=>simp[J6] at hd
 |any=>simp[J6] at hd
theorem Bqk (hcl:Fg P G cl) (hG:GR G w (Bl pl H)) (hH:HR w pl Bd H) (hE:RE w (Bl pl H) pl (Bc H) env a) {o:Oper} {F:Operand} {A:Array Operand} {ts:Array TypeId} (ho:o.op= .call { callee:= .value F,args:=A,argTypes:=ts })
  {f:AOpd} {ags:List AOpd} (hf:Cb f F=true) (ha:Kr ags A.toList=true) {k:Nat} {dcaps:List D} (hc:Cw G env f= .d (.fn (.func k) dcaps)) {ws:List D} (hw:Gp (Sb H) (ags.map (Cw G env))=some ws)
  {v:V} (hr:Be cl k (ws.map .d++dcaps.map .d)=some v) (hfl: ((ags.map (Cw G env)).all J6||Zm v)=true):OpSim P o a w pl Bd H v H:=by
 have hfv:=Cu hf hG hE (by rw[hc];rfl)
 obtain⟨_,us,hfe,hcaps⟩:=T9 (k:=k) (caps:=dcaps.map .d) (by rw[hc];rfl) hfv
 obtain⟨h1,h2⟩:=Gn (d:=V.any) (d':=D.nilp) hw
 obtain⟨Bc,hopd⟩:=Bax hG hE ags A.toList ha
 have hok:=(hcl _ _ _ _ _ (Dr hr [])).1
 intro next Q hn
 unfold Oper.wp
 rw[Ya ho hfe hok,Oper.upon_enter]
 have hview: ∀i,i<ags.length→((ags.map (Cw G env)).getD i .any).ok=true∧Sb H ((ags.map (Cw G env)).getD i .any)=some (ws.getD i .nilp):=by
  intro i hi
  have:=h2 i (by simpa using hi)
  refine⟨?_,this⟩
  revert this
  generalize(ags.map (Cw G env)).getD i .any=y
  cases y<;>simp[V.ok,Sb,Kb,fz,Pb]
 have hws:ws.length=ags.length:=by simpa using h1
 have hA:A.size=ags.length:=by simpa using Bc
 have hval: ∀i,(A.map a.eval).getD i undef=(A.toList.map a.eval).getD i undef:=by
  intro i
  simp[Cda]
 have E0:Ext w (Bl pl H) w (fun _=>False):=⟨rfl,rfl,rfl,Cd7 _,fun b _ _=> ⟨rfl,fun h=>h⟩⟩
 rcases Bool.or_eq_true_iff.1 hfl with hd|hflat
 ·
  have hcall:=(hcl _ _ _ _ _ (Dr hr H)).2 w pl Bd (A.map a.eval++us) hH hG (by
   refine RVs.append ⟨by simp[hws,hA],fun i hi=> ?_⟩ hcaps
   have hi':i<ags.length:=by simp at hi;omega
   obtain⟨k1,k2⟩:=hview i hi'
   rw[Dh ws i (by omega),hval i]
   have hrv:=hopd i hi' k1
   have hdd:=Cdl.1 hd ((ags.map (Cw G env)).getD i .any) (by
    rw[Cda,Cdh (by simpa using hi'),Cdu]
    exact Cdr _)
   exact .d _ _ (Zo hdd k2 hrv))
  refine hcall.mono fun e w' he=> ?_
  obtain⟨u,pl',rfl,hfin⟩:=he
  exact hn u w' pl' hfin
 ·
  have hG0:GR G w (Bl pl []):=(hG.mono E0).mono ⟨rfl,rfl,rfl,Cd7 _,fun b _ _=> ⟨rfl,Mh pl b⟩⟩
  have E1:Ext w (Bl pl H) w (Bl pl []):=⟨rfl,rfl,rfl,Cd7 _,fun b _ _=> ⟨rfl,Mh pl b⟩⟩
  have hcall:=(hcl _ _ _ _ _ (Dr hr [])).2 w pl _ (A.map a.eval++us) (HR.none w pl) hG0 (by
   refine RVs.append ⟨by simp[hws,hA],fun i hi=> ?_⟩ ⟨hcaps.1,fun i hi=> ?_⟩
   ·have hi':i<ags.length:=by simp at hi;omega
    obtain⟨k1,k2⟩:=hview i hi'
    rw[Dh ws i (by omega),hval i]
    exact .d _ _ (By6 hH k2 (hopd i hi' k1) E1 fun r b _=>Mh pl b)
   ·have hr':=hcaps.2 i hi
    rw[Dh dcaps i (by simpa using hi)] at hr'⊢
    exact .d _ _ (hr'.dd.mono E1))
  refine hcall.mono fun e w' he=> ?_
  obtain⟨u,pl',rfl,hfin⟩:=he
  obtain⟨m1,m2⟩:=hH.mono_all (w':=w') ⟨hfin.ext.os,hfin.ext.tape,hfin.ext.output,hfin.ext.size,fun b hb _=> ⟨(hfin.ext.keep b hb (Mh pl b)).1,fun h=>h⟩⟩
  exact hn u w' pl ⟨m1,Bo2 hflat hfin.rv,m2,PlExt.refl _ _,Cd7 _⟩
theorem Bma (hcl:Fg P G cl) (hG:GR G w (Bl pl H)) (hH:HR w pl Bd H) (hE:RE w (Bl pl H) pl (Bc H) env a) {o:Oper} {F:Operand} {A:Array Operand} {ts:Array TypeId} (ho:o.op= .call { callee:= .value F,args:=A,argTypes:=ts })
  {f:AOpd} {ags:List AOpd} (hf:Cb f F=true) (ha:Kr ags A.toList=true) {k:Nat} {dcaps:List D} (hc:Cw G env f= .d (.fn (.func k) dcaps)) {ws:List D} (hw:Gp (Sb H) (ags.map (Cw G env))=some ws)
  {x:V} (hr:F9 cl k (ws.map .d++dcaps.map .d)=some x) (hd: (ags.map (Cw G env)).all J6=true):OpSim P o a w pl Bd H x H:=by
 obtain⟨v,H2,hr,hz,htk⟩:=Po hr H
 have key:OpSim P o a w pl Bd H x (Cx H2 (Bc H)):=by
  have hfv:=Cu hf hG hE (by rw[hc];rfl)
  obtain⟨_,us,hfe,hcaps⟩:=T9 (k:=k) (caps:=dcaps.map .d) (by rw[hc];rfl) hfv
  obtain⟨h1,h2⟩:=Gn (d:=V.any) (d':=D.nilp) hw
  obtain⟨Bc,hopd⟩:=Bax hG hE ags A.toList ha
  obtain⟨hok,hcall⟩:=hcl _ _ _ _ _ hr
  intro next Q hn
  unfold Oper.wp
  rw[Ya ho hfe hok,Oper.upon_enter]
  have hws:ws.length=ags.length:=by simpa using h1
  have hA:A.size=ags.length:=by simpa using Bc
  have hval: ∀i,(A.map a.eval).getD i undef=(A.toList.map a.eval).getD i undef:=by
   intro i
   simp[Cda]
  refine(hcall w pl _ (A.map a.eval++us) hH.enter hG (by
   refine RVs.append ⟨by simp[hws,hA],fun i hi=> ?_⟩ hcaps
   have hi':i<ags.length:=by simp at hi;omega
   have k2:=h2 i (by simpa using hi')
   rw[Dh ws i (by omega),hval i]
   have hdd:=Cdl.1 hd ((ags.map (Cw G env)).getD i .any) (by
    rw[Cda,Cdh (by simpa using hi'),Cdu]
    exact Cdr _)
   have hrv:=hopd i hi' (by
    revert hdd
    generalize(ags.map (Cw G env)).getD i .any=y
    cases y<;>simp[J6,V.ok])
   exact .d _ _ (Zo hdd k2 hrv))).mono fun e w' he=> ?_
  obtain⟨u,pl',rfl,hfin⟩:=he
  have hle:=hfin.le
  obtain⟨t1,t2⟩:=hfin.hr.take (Ev.Bc H) (Or.inr rfl) (Bd':=Bd) (fun m hm=> ⟨Or.inl hm,by have:=hH.le m hm;omega⟩)
  refine hn u w' pl' ⟨t1, ?_,hfin.ext.trans t2,hfin.ple,by rw[F6 hle];omega⟩
  rw[F6 hle]
  exact Bku hfin.hr (Or.inr rfl) hz hfin.rv
 rw[htk] at key
 exact key
end
section
variable {P:Program} {cl:D6} {G:Gi} {w:World} {pl:Pl} {Bd:Nat→Prop} {H:Hp} {env:Env} {a:Act}
theorem Zc {v:V} {r:Nat×List V×Bool} (h:R3 H v=some r):v.ok=true:=by
 unfold R3 at h
 split at h<;>first|rfl|simp at h
theorem Bwj {cs:List AOpd} {xs:List D} (h:Gr (cs.map (Cw G env))=some xs): ∀c∈cs,(Cw G env c).ok=true:=by
 intro c hc
 have:=Kc h
 have hm:Cw G env c∈cs.map (Cw G env):=List.mem_map.2 ⟨c,hc,rfl⟩
 rw[this] at hm
 obtain⟨d,_,hd⟩:=List.mem_map.1 hm
 rw[←hd];rfl
theorem Bh2 {O:Gz} {m:Nat} : ∀ (vs:List V) (ps:List (Nat×Operand)) (k:Nat) (qs:List AOpd),Nk k qs ps=true→vs.length=ps.length→
  (∀i,i<vs.length→RV w O pl m (vs.getD i .any) ((ps.map fun p=>a.eval p.2).getD i undef))→Bg1 w O pl m a k vs ps
 | [],[],_,_,_,_,_=>trivial
 | [],_::_,_,_,_,h,_=>by simp at h
 |_::_,[],_,_,_,h,_=>by simp at h
 |v::vs,(i,y)::ps,k,[],h,_,_=>by simp[Nk] at h
 |v::vs,(i,y)::ps,k,x::qs,h,hl,hr=>by
  simp only[Nk,Cdv] at h
  obtain⟨⟨h1,h2⟩,h3⟩:=h
  exact⟨Cd6 h1,by simpa using hr 0 (by simp),Bh2 vs ps (k+1) qs h3 (by simpa using hl) fun i hi=>by simpa using hr (i+1) (by simpa using hi)⟩
theorem Bb1: ∀ (qs:List AOpd) (ps:List (Nat×Operand)) (k:Nat),Nk k qs ps=true→Qb (qs.map fun x=> (true,x)) (ps.map fun p=>p.2)=true∧qs.length=ps.length
 | [],[],_,_=> ⟨rfl,rfl⟩
 | [],_::_,_,h=>by simp[Nk] at h
 |_::_,[],_,h=>by simp[Nk] at h
 |x::qs,(i,y)::ps,k,h=>by
  simp only[Nk,Cdv] at h
  obtain⟨h1,h2⟩:=Bb1 qs ps (k+1) h.2
  refine⟨?_,by simp[h2]⟩
  simp only[Cdd,Qb,Cdv]
  exact⟨h.1.2,h1⟩
theorem Bt9 (hG:GR G w (Bl pl H)) (hH:HR w pl Bd H) (hE:RE w (Bl pl H) pl (Bc H) env a) {o:Oper} {t n:Nat} {ps:Array (Nat×Operand)} (ho:o.op= .buildSlice t n ps) {e:Nat} {qs:List AOpd}
  (hc: (match Gx P t with|some el=>Ma P el e&&Ml P el e|none=>false)=true) (hlit:Nk 0 qs ps.toList=true) (hn:n=qs.length) (hbig:n*e≤16777216) (he:0<e)
  {vs:List V} {H1:Hp} (hh:Uo G env H (qs.map fun x=> (true,x))=some (vs,H1)) (hall: ∀x∈vs,x.sto=true∧x.cells.length=e) {xs:List D} (hxs:Gr vs=some xs):OpSim P o a w pl Bd H (.d (.vals e xs)) H1:=by
 obtain⟨ha,hql⟩:=Bb1 qs ps.toList 0 hlit
 obtain⟨hH1,E1,hl1,hv1,hv2⟩:=Bar _ _ H vs H1 ha hH hG hE hh
 have hvl:vs.length=ps.toList.length:=by simpa using hv1.symm
 have lv:Bg1 w (Bl pl H1) pl (Bc H1) a 0 vs ps.toList:=Bh2 vs ps.toList 0 qs hlit hvl fun i hi=>by
  have:=hv2 i hi
  rw[hl1]
  have e1: ((ps.toList.map fun p=>p.2).map a.eval).toArray.getD i undef=(ps.toList.map fun p=>a.eval p.2).getD i undef:=by
   rw[List.map_map]
   simp[Cda]
   rfl
  rw[e1] at this
  exact this
 have key:=Bc4 hH1 ho (qs:=vs) hc lv (by rw[hvl,hn,hql]) hbig he hall (.inr ⟨xs,hxs,rfl,rfl⟩)
 intro next Q hnx
 exact key next Q fun u w' pl' hf=>hnx u w' pl' (hf.from E1 hl1)
theorem Bkr (hcl:Fg P G cl) {B:Bn} (hn0:N8 Bd B) (hG:GR G w (Bl pl H)) (hH:HR w pl Bd H) (hE:RE w (Bl pl H) pl (Bc H) env a) {o:Oper} {x:AOp} (hc:Brx P o.op x=true)
  {v:V} {H':Hp} (h:Ce cl G B env H x=some (v,H')):OpSim P o a w pl Bd H v H':=by
 generalize ho:o.op=op at hc
 unfold Brx at hc
 split at hc
 ·
  simp only[Ce] at h
  split at h
  ·rename_i hk
   simp only[Cdt,Cd2] at h;obtain⟨rfl,rfl⟩:=h
   exact Bub hG hH hE (.inl ho) hc hk
  ·simp at h
 ·
  simp only[Ce] at h
  split at h
  ·rename_i hk
   simp only[Cdt,Cd2] at h;obtain⟨rfl,rfl⟩:=h
   exact Bub hG hH hE (.inr ho) hc hk
  ·simp at h
 ·
  simp only[Cdv] at hc
  simp only[Ce] at h
  split at h
  ·rename_i t ht
   split at h
   ·rename_i hk
    simp only[Cdt,Cd2] at h;obtain⟨rfl,rfl⟩:=h
    exact Buc hG hH hE ho hc.1.1 hc.1.2 hc.2 ht hk
   ·simp at h
  ·simp at h
 ·
  simp only[Ce] at h
  split at h
  ·rename_i hk
   simp only[Cdt,Cd2] at h;obtain⟨rfl,rfl⟩:=h
   exact Bqa hH ho hc hk
  ·simp at h
 ·
  simp only[Ce] at h
  split at h
  ·rename_i hk
   simp only[Cdt,Cd2] at h;obtain⟨rfl,rfl⟩:=h
   exact Byh hG hH hE ho hc hk
  ·simp at h
 ·
  rw[Cdv] at hc
  simp only[Ce] at h
  split at h
  ·rename_i cs hcs
   simp only[Cdt,Cd2] at h;obtain⟨rfl,rfl⟩:=h
   exact Bqb hG hH hE ho hc.1 hc.2 hcs
  ·simp at h
 ·
  simp only[Cdv,decide_eq_true_eq] at hc
  obtain⟨⟨⟨⟨h1,h2⟩,h3⟩,h4⟩,h5⟩:=hc
  have h3:=Cd6 h3
  simp only[Ce] at h
  split at h
  ·rename_i hall
   have hall': ∀x∈_,(Cw G env x).sto=true∧(Cw G env x).cells.length=_:=fun x hx=>by
    have:=Cdl.1 hall (Cw G env x) (List.mem_map.2 ⟨x,hx,rfl⟩)
    rw[Cdv] at this
    exact⟨this.2,Cd6 this.1⟩
   split at h
   ·simp only[Cdt,Cd2,Cdo] at h;obtain⟨rfl,rfl⟩:=h
    exact Boa hG hH hE ho h1 h2 h3 h4 h5 hall' (.inl ⟨rfl,rfl⟩)
   ·split at h
    ·rename_i xs hxs
     simp only[Cdt,Cd2] at h;obtain⟨rfl,rfl⟩:=h
     exact Boa hG hH hE ho h1 h2 h3 h4 h5 hall' (.inr ⟨xs,hxs,rfl,rfl⟩)
    ·simp at h
  ·simp at h
 ·
  simp only[Cdv,decide_eq_true_eq] at hc
  obtain⟨⟨⟨⟨h1,h2⟩,h3⟩,h4⟩,h5⟩:=hc
  have h3:=Cd6 h3
  simp only[Ce] at h
  split at h
  ·rename_i vs H1 hh
   split at h
   ·rename_i hall
    have hall': ∀x∈vs,x.sto=true∧x.cells.length=_:=fun x hx=>by
     have:=Cdl.1 hall x hx
     rw[Cdv] at this
     exact⟨this.2,Cd6 this.1⟩
    split at h
    ·rename_i xs hxs
     simp only[Cdt,Cd2] at h;obtain⟨rfl,rfl⟩:=h
     exact Bt9 hG hH hE ho h1 h2 h3 h4 h5 hh hall' hxs
    ·simp at h
   ·simp at h
  ·simp at h
 ·
  simp only[Cdv] at hc
  simp only[Ce] at h
  split at h
  ·rename_i r g i j hp
   split at h
   ·rename_i cs hcs
    split at h
    ·rename_i v' hv
     simp only[Cdt,Cd2] at h;obtain⟨rfl,rfl⟩:=h
     exact Bua hG hH hE ho hc.1.1 hc.1.2 hc.2 hp hcs hv
    ·simp at h
   ·simp at h
  ·rename_i cs hp
   split at h
   ·rename_i hl
    split at h
    ·rename_i v' hv
     simp only[Cdt,Cd2] at h;obtain⟨rfl,rfl⟩:=h
     exact Bqi hG hH hE ho hc.1.1 hc.1.2 hc.2 hp hl hv
    ·simp at h
   ·simp at h
  ·simp at h
 ·
  simp only[Cdv] at hc
  simp only[Ce] at h
  split at h
  ·rename_i r g i j hp
   split at h
   ·rename_i hk
    split at h
    ·rename_i H1 hs
     simp only[Cdt,Cd2] at h;obtain⟨rfl,rfl⟩:=h
     exact Bql hn0 hG hH hE ho hc.1.1 hc.1.2 hc.2 hp hk.1 hk.2.1 hk.2.2 hs
    ·simp at h
   ·simp at h
  ·simp at h
 ·
  simp only[Ce] at h
  split at h
  ·rename_i hp
   simp only[Cdt,Cd2] at h;obtain⟨rfl,rfl⟩:=h
   exact Un hG hH hE ho hc hp (.inl ⟨_,_,_,_,rfl⟩)
  ·rename_i hp
   simp only[Cdt,Cd2] at h;obtain⟨rfl,rfl⟩:=h
   exact Un hG hH hE ho hc hp (.inr (.inl ⟨_,rfl⟩))
  ·rename_i hp
   simp only[Cdt,Cd2] at h;obtain⟨rfl,rfl⟩:=h
   exact Un hG hH hE ho hc hp (.inr (.inr (.inl ⟨_,_,rfl⟩)))
  ·rename_i hp
   simp only[Cdt,Cd2] at h;obtain⟨rfl,rfl⟩:=h
   exact Un hG hH hE ho hc hp (.inr (.inr (.inr ⟨_,_,rfl⟩)))
  ·simp at h
 ·
  simp only[Cdv,decide_eq_true_eq] at hc
  obtain⟨⟨⟨rfl,h2⟩,h3⟩,h4⟩:=hc
  simp only[Ce] at h
  split at h
  ·rename_i p q hp hq
   split at h
   ·rename_i z hz
    simp only[Cdt,Cd2] at h;obtain⟨rfl,rfl⟩:=h
    exact Byg hG hH hE ho h2 h3 h4 hp hq hz
   ·simp at h
  ·simp at h
 ·
  simp only[Cdv,decide_eq_true_eq] at hc
  obtain⟨rfl,h2⟩:=hc
  simp only[Ce] at h
  split at h
  ·rename_i p hp
   split at h
   ·rename_i z hz
    simp only[Cdt,Cd2] at h;obtain⟨rfl,rfl⟩:=h
    exact B1m hG hH hE ho h2 hp hz
   ·simp at h
  ·simp at h
 ·
  simp only[Cdv] at hc
  simp only[Ce] at h
  split at h
  ·rename_i hp
   simp only[Cdt,Cd2] at h;obtain⟨rfl,rfl⟩:=h
   exact Bqe hG hH hE ho hc.1.1 hp hc.1.2 hc.2
  ·simp at h
 ·
  simp only[Cdv] at hc
  simp only[Ce] at h
  split at h
  ·rename_i hp
   simp only[Cdt,Cd2] at h;obtain⟨rfl,rfl⟩:=h
   exact Bt8 hG hH hE ho hc.1.1 hp hc.1.2 hc.2
  ·simp at h
 ·
  rw[Cdv,Cdv] at hc
  simp only[Ce] at h
  split at h
  ·rename_i e vs Us hsrc
   split at h
   ·rename_i s hs
    split at h
    ·rename_i he
     subst he
     simp only[Cdt,Cd2] at h;obtain⟨rfl,rfl⟩:=h
     exact Bqf hG hH hE ho hc.1.1 (Zc hsrc) hc.1.2 hc.2 hsrc hs
    ·simp at h
   ·simp at h
  ·simp at h
 ·
  simp only[Cdv,decide_eq_true_eq] at hc
  obtain⟨⟨rfl,h2⟩,h3⟩:=hc
  have h2:=Cd6 h2
  simp only[Ce] at h
  split at h
  ·rename_i xs hxs
   simp only[Cdt,Cd2] at h;obtain⟨rfl,rfl⟩:=h
   exact Bi9 hG hH hE ho h2 h3 (Bwj hxs) (.inl ⟨xs,hxs,rfl⟩)
  ·split at h
   ·rename_i hall
    simp only[Cdt,Cd2] at h;obtain⟨rfl,rfl⟩:=h
    exact Bi9 hG hH hE ho h2 h3 (fun c hc=>Cdl.1 hall _ (List.mem_map.2 ⟨c,hc,rfl⟩)) (.inr rfl)
   ·simp at h
 ·
  simp only[Ce,Cdt,Cd2] at h;obtain⟨rfl,rfl⟩:=h
  exact Bqj hH hc ho
 ·
  rw[Cdv,Cdv,Cdv] at hc
  simp only[Ce] at h
  split at h
  ·rename_i r kd hm hk
   split at h
   ·rename_i ks vs hrow
    split at h
    ·rename_i kds hkd
     split at h
     ·rename_i hl
      split at h
      ·rename_i hok
       simp only[Cdt,Cd2] at h;obtain⟨rfl,rfl⟩:=h
       exact Bc3 hn0 hG hH hE (.inl ho) hc.1.1.1 hc.1.1.2 hc.1.2 hc.2 hm hk hok.1 hrow hkd hl hok.2
      ·simp at h
     ·simp at h
    ·simp at h
   ·simp at h
  ·simp at h
 ·
  rw[Cdv,Cdv,Cdv] at hc
  simp only[Ce] at h
  split at h
  ·rename_i r kd hm hk
   split at h
   ·rename_i ks vs hrow
    split at h
    ·rename_i kds hkd
     split at h
     ·rename_i hl
      split at h
      ·rename_i hok
       simp only[Cdt,Cd2] at h;obtain⟨rfl,rfl⟩:=h
       exact Bc3 hn0 hG hH hE (.inr ho) hc.1.1.1 hc.1.1.2 hc.1.2 hc.2 hm hk hok.1 hrow hkd hl hok.2
      ·simp at h
     ·simp at h
    ·simp at h
   ·simp at h
  ·simp at h
 ·
  rw[Cdv,Cdv,Cdv,decide_eq_true_eq] at hc
  obtain⟨⟨⟨rfl,h2⟩,h3⟩,h4⟩:=hc
  simp only[Ce] at h
  split at h
  ·rename_i ks vs kd hm hk
   split at h
   ·rename_i hl
    simp only[Cdt,Cd2] at h;obtain⟨rfl,rfl⟩:=h
    exact Bc5 hG hH hE ho h2 h3 h4 hm hk hl (.inl ⟨_,rfl,rfl⟩)
   ·rename_i hl
    simp only[Cdt,Cd2] at h;obtain⟨rfl,rfl⟩:=h
    exact Bc5 hG hH hE ho h2 h3 h4 hm hk hl (.inr ⟨rfl,rfl⟩)
   ·simp at h
  ·simp at h
 ·
  rw[Cdv,Cdv] at hc
  simp only[Ce] at h
  split at h
  ·rename_i n c hl hcp
   split at h
   ·rename_i hk
    obtain⟨h0,rfl,h2,h3,h4⟩:=hk
    simp only[Cdt,Cd2] at h;obtain⟨rfl,rfl⟩:=h
    exact Bjb hG hH hE ho hc.1.1 hc.1.2 hc.2 hl hcp h0 h2 h3 h4
   ·simp at h
  ·simp at h
 ·
  rw[Cdv,Cdv,Cdv] at hc
  obtain⟨⟨⟨h1,h2⟩,h3⟩,h4⟩:=hc
  simp only[Ce] at h
  split at h
  ·rename_i s hp
   split at h
   ·rename_i hi hhi
    split at h
    ·rename_i l hl
     simp only[Cdt,Cd2] at h;obtain⟨rfl,rfl⟩:=h
     exact Bgt hG hH hE ho h1 h2 h3 h4 hp hhi hl
    ·simp at h
   ·simp at h
  ·rename_i e e' xs hp
   split at h
   ·rename_i hi hhi
    split at h
    ·rename_i l hl
     split at h
     ·rename_i he
      subst he
      simp only[Cdt,Cd2] at h;obtain⟨rfl,rfl⟩:=h
      exact Bdp hG hH hE ho h1 h2 h3 h4 hp hhi hl
     ·simp at h
    ·simp at h
   ·simp at h
  ·rename_i e r g i n hp
   split at h
   ·rename_i e' xs hrow
    split at h
    ·rename_i hi hhi
     split at h
     ·rename_i l hl
      split at h
      ·rename_i he
       subst he
       simp only[Cdt,Cd2] at h;obtain⟨rfl,rfl⟩:=h
       exact Bgs hG hH hE ho h1 h2 h3 h4 hp hrow hhi hl
      ·simp at h
     ·simp at h
    ·simp at h
   ·simp at h
  ·simp at h
 ·
  rw[Cdv] at hc
  simp only[Ce] at h
  split at h
  ·rename_i hp
   simp only[Cdt,Cd2] at h;obtain⟨rfl,rfl⟩:=h
   exact Bqg hG hH hE ho hc.1 hc.2 hp
  ·rename_i hp
   split at h
   ·simp only[Cdt,Cd2] at h;obtain⟨rfl,rfl⟩:=h
    exact Bl7 hG hH hE ho hc.1 hc.2 hp
   ·simp at h
  ·simp at h
 ·
  rw[Cdv] at hc
  simp only[Ce] at h
  split at h
  ·rename_i hl
   split at h
   ·rename_i hv
    simp only[Cdt,Cd2] at h;obtain⟨rfl,rfl⟩:=h
    exact Bqh hG hH hE ho hc.1 hc.2 hl.1 hl.2 hv
   ·simp at h
  ·simp at h
 ·
  rw[Cdv,Cdv] at hc
  simp only[Ce] at h
  split at h
  ·rename_i k hk
   split at h
   ·rename_i e' xs hp
    split at h
    ·rename_i hb
     obtain⟨h0,h1,rfl⟩:=hb
     simp only[Cdt,Cd2] at h;obtain⟨rfl,rfl⟩:=h
     exact Bl8 hG hH hE ho hc.1.1 hc.1.2 hc.2 hk hp h0 h1
    ·simp at h
   ·rename_i r g j n hp
    split at h
    ·rename_i hb
     split at h
     ·rename_i e' xs hrow
      split at h
      ·rename_i he
       subst he
       simp only[Cdt,Cd2] at h;obtain⟨rfl,rfl⟩:=h
       exact Bl9 hG hH hE ho hc.1.1 hc.1.2 hc.2 hk hp hb.1 hb.2 hrow
      ·simp at h
     ·simp at h
    ·simp at h
   ·simp at h
  ·simp at h
 ·
  simp only[Cdv] at hc
  simp only[Ce] at h
  split at h
  ·rename_i s k hp hk
   split at h
   ·rename_i hb
    simp only[Cdt,Cd2] at h;obtain⟨rfl,rfl⟩:=h
    exact Byi hG hH hE ho hc.1.1 hc.1.2 hc.2 hp hk hb.1 hb.2
   ·simp at h
  ·simp at h
 ·
  simp only[Cdv] at hc
  have hi:=Cd6 hc.2
  subst hi
  simp only[Ce] at h
  split at h
  ·rename_i vs hp
   split at h
   ·rename_i hv
    simp only[Cdt,Cd2] at h;obtain⟨rfl,rfl⟩:=h
    exact Bi8 hG hH hE ho hc.1 hp hv
   ·simp at h
  ·simp at h
 ·
  simp only[Cdv] at hc
  have hi:=Cd6 hc.1.1
  subst hi
  simp only[Ce] at h
  split at h
  ·rename_i hp
   simp only[Cdt,Cd2] at h;obtain⟨rfl,rfl⟩:=h
   exact Bja hG hH hE ho hc.1.2 hp hc.2
  ·simp at h
 ·
  rw[Cdv] at hc
  simp only[Ce] at h
  split at h
  ·rename_i k caps hk
   split at h
   ·rename_i vs H1 hh
    split at h
    ·rename_i v' H2 hr
     split at h
     ·simp only[Cdt,Cd2] at h;obtain⟨rfl,rfl⟩:=h
      exact Bt7 hcl hG hH hE ho hc.1 hc.2 hk hh hr
     ·split at h
      ·rename_i hz
       simp only[Cdt,Cd2] at h;obtain⟨rfl,rfl⟩:=h
       exact Bqc hcl hG hH hE ho hc.1 hc.2 hk hh hr hz
      ·simp at h
    ·simp at h
   ·simp at h
  ·simp at h
 ·
  rename_i F A ts f' ags'
  rw[Cdv] at hc
  simp only[Ce] at h
  split at h
  ·rename_i k caps hk
   split at h
   ·rename_i ws hw
    split at h
    ·rename_i v' hr
     split at h
     ·rename_i hfl
      simp only[Cdt,Cd2] at h;obtain⟨rfl,rfl⟩:=h
      have hk': ∃dc,Cw G env f'= .d (.fn (.func k) dc)∧caps=dc.map .d:=by
       split at hk
       ·rename_i he
        simp only[Cdt,Cd2] at hk
        obtain⟨rfl,rfl⟩:=hk
        exact⟨_,he,rfl⟩
       ·simp at hk
      obtain⟨dc,hdc,rfl⟩:=hk'
      exact Bqk hcl hG hH hE ho hc.1 hc.2 hdc hw hr hfl
     ·simp at h
    ·split at h
     ·rename_i v' hr
      split at h
      ·rename_i hfl
       simp only[Cdt,Cd2] at h;obtain⟨rfl,rfl⟩:=h
       have hk': ∃dc,Cw G env f'= .d (.fn (.func k) dc)∧caps=dc.map .d:=by
        split at hk
        ·rename_i he
         simp only[Cdt,Cd2] at hk
         obtain⟨rfl,rfl⟩:=hk
         exact⟨_,he,rfl⟩
        ·simp at hk
       obtain⟨dc,hdc,rfl⟩:=hk'
       exact Bma hcl hG hH hE ho hc.1 hc.2 hdc hw hr hfl
      ·simp at h
     ·simp at h
   ·simp at h
  ·simp at h
 ·
  split at hc
  ·rename_i y t has hts
   rw[Cdv] at hc
   simp only[Ce] at h
   split at h
   ·rename_i s hp
    simp only[Cdt,Cd2] at h;obtain⟨rfl,rfl⟩:=h
    exact Baz hG hH hE ho has hts hc.1 (.inl ⟨hc.2,s,hp,rfl⟩)
   ·rename_i e xs hp
    simp only[Cdt,Cd2] at h;obtain⟨rfl,rfl⟩:=h
    exact Baz hG hH hE ho has hts hc.1 (.inr ⟨hc.2, .inl ⟨e,xs,hp,rfl⟩⟩)
   ·rename_i e hp
    simp only[Cdt,Cd2] at h;obtain⟨rfl,rfl⟩:=h
    exact Baz (n:=0) hG hH hE ho has hts hc.1 (.inr ⟨hc.2, .inr (.inl ⟨e,hp,rfl⟩)⟩)
   ·rename_i r g i n hp
    simp only[Cdt,Cd2] at h;obtain⟨rfl,rfl⟩:=h
    exact Baz hG hH hE ho has hts hc.1 (.inr ⟨hc.2, .inr (.inr ⟨r,g,i,hp⟩)⟩)
   ·simp at h
  ·simp at hc
 ·
  split at hc
  ·rename_i S X t t' has hts
   rw[Cdv,Cdv,Cdv,Cdv,Cdv,decide_eq_true_eq,decide_eq_true_eq] at hc
   obtain⟨⟨⟨⟨⟨h1,h2⟩,h3⟩,h4⟩,h5⟩,h6⟩:=hc
   have h1:=Cd6 h1
   subst h1
   simp only[Ce] at h
   split at h
   ·rename_i ey ys Us hsrc
    split at h
    ·rename_i e1 hse
     split at h
     ·split at h
      ·rename_i he
       subst he
       simp only[Cdt,Cd2] at h;obtain⟨rfl,rfl⟩:=h
       exact U1 hG hH hE ho has hts h2 h3 h4 h6 hse (Zc hsrc) hsrc (.inl ⟨rfl,rfl,rfl⟩)
      ·simp at h
     ·split at h
      ·rename_i he
       obtain⟨he1,rfl,he3⟩:=he
       simp only[Cdt,Cd2] at h;obtain⟨rfl,rfl⟩:=h
       exact U1 hG hH hE ho has hts h2 h3 h4 h6 hse (Zc hsrc) hsrc (.inr ⟨he1,by simp,he3,rfl,rfl⟩)
      ·simp at h
    ·rename_i r g i n hse
     split at h
     ·rename_i e' xs hrow
      split at h
      ·rename_i hk
       obtain⟨rfl,rfl,k3,k4⟩:=hk
       split at h
       ·rename_i hn
        split at h
        ·rename_i hroom
         simp only[Cdt,Cd2] at h;obtain⟨rfl,rfl⟩:=h
         exact Ws hn0 hG hH hE ho has hts h2 h3 h4 h6 hse hrow (Zc hsrc) hsrc k4 (.inl ⟨by omega,by omega,hroom,rfl,by rw[hn,List.take_length]⟩)
        ·simp at h
       ·split at h
        ·rename_i hle
         simp only[Cdt,Cd2] at h;obtain⟨rfl,rfl⟩:=h
         exact Ws hn0 hG hH hE ho has hts h2 h3 h4 h6 hse hrow (Zc hsrc) hsrc k4 (.inr ⟨hle,rfl,rfl⟩)
        ·split at h
         ·rename_i hroom
          simp only[Cdt,Cd2] at h;obtain⟨rfl,rfl⟩:=h
          exact Ws hn0 hG hH hE ho has hts h2 h3 h4 h6 hse hrow (Zc hsrc) hsrc k4 (.inl ⟨k3,by omega,hroom,rfl,rfl⟩)
         ·simp at h
      ·simp at h
     ·simp at h
    ·simp at h
   ·simp at h
  ·simp at hc
 ·
  simp only[Ce] at h
  rename_i xs
  match xs,hc,h with
  | [],_,h=>simp at h
  | [_],_,h=>simp at h
  |y::y2::ys,hc,h=>
   simp only[Cdd] at h
   split at h
   ·rename_i z hz
    simp only[Cdt,Cd2] at h;obtain⟨rfl,rfl⟩:=h
    exact Bjc (mx:=true) hG hH hE ho hc hz ((Xw _ _ _ hz).1 (by simp))
   ·simp at h
 ·
  simp only[Ce] at h
  rename_i xs
  match xs,hc,h with
  | [],_,h=>simp at h
  | [_],_,h=>simp at h
  |y::y2::ys,hc,h=>
   simp only[Cdd] at h
   split at h
   ·rename_i z hz
    simp only[Cdt,Cd2] at h;obtain⟨rfl,rfl⟩:=h
    exact Bjc (mx:=false) hG hH hE ho hc hz ((Xw _ _ _ hz).1 (by simp))
   ·simp at h
 ·
  simp only[Cdv] at hc
  obtain⟨⟨⟨h1,h2⟩,h3⟩,h4⟩:=hc
  simp only[Ce] at h
  split at h
  ·rename_i r g i n hp
   split at h
   ·rename_i e' xs hrow
    split at h
    ·rename_i hb hh
     split at h
     ·rename_i l hl
      split at h
      ·rename_i hcon
       obtain⟨rfl,rfl⟩:=hcon
       simp only[Cdt,Cd2] at h;obtain⟨rfl,rfl⟩:=h
       exact Bmc hG hH hE ho h1 h2 h3 h4 hp hrow hh hl
      ·simp at h
     ·simp at h
    ·simp at h
   ·simp at h
  ·simp at h
 ·
  simp only[Cdv] at hc
  obtain⟨⟨⟨⟨h1,h2⟩,h3⟩,h4⟩,h5⟩:=hc
  simp only[Ce] at h
  split at h
  ·rename_i n hn
   split at h
   ·rename_i m hm
    split at h
    ·rename_i k hk
     split at h
     ·rename_i l hl
      simp only[Cdt,Cd2] at h;obtain⟨rfl,rfl⟩:=h
      exact Bmb hG hH hE ho h1 h2 h3 h4 h5 hn hm hk hl
     ·simp at h
    ·simp at h
   ·simp at h
  ·simp at h
 ·
  simp only[Ce] at h
  split at hc
  ·rename_i x' t has hts
   rw[Cdv] at hc
   split at h
   ·rename_i r g i n hse
    split at h
    ·rename_i e' xs hrow
     split at h
     ·rename_i hcon
      obtain⟨rfl,k1,k2,k3,k4,k5⟩:=hcon
      simp only[Cdt,Cd2] at h;obtain⟨rfl,rfl⟩:=h
      exact Bqd hn0 hG hH hE ho has hts hc.1 hc.2 hse hrow k2 k1 k3 k4 k5
     ·simp at h
    ·simp at h
   ·simp at h
  ·simp at hc
 ·simp at hc
end
def Bf5 {α:Type} :Option α→List α
 |some x=> [x]
 |none=> []
def AOp.opds:AOp→List AOpd
 | .mv x=> [x]
 | .pick c a b=> [c,a,b]
 | .alloc _=> []
 | .box x=> [x]
 | .build _ ps=>ps.map (·.2.2)
 | .lit _ _ ps=>ps
 | .litf _ ps=>ps
 | .load _ _ a=> [a]
 | .store _ a x=> [a,x]
 | .nilck x=> [x]
 | .bin _ _ x y=> [x,y]
 | .un _ x=> [x]
 | .cvInt _ x=> [x]
 | .cvId x=> [x]
 | .cvStr x=> [x]
 | .mkfn _ cs=>cs
 | .mkmap=> []
 | .insert m k v=> [m,k,v]
 | .lookup _ m k _=> [m,k]
 | .mkslice _ _ _ l c=> [l,c]
 | .slice _ x lo hi=>x:: (Bf5 lo++Bf5 hi)
 | .slice3 _ x lo hi mx=>x::hi::mx::Bf5 lo
 | .slicec _ x lo hi=>x::hi::Bf5 lo
 | .clear _ _ x=> [x]
 | .faddr _ x=> [x]
 | .field _ _ _ x=> [x]
 | .iaddr _ x i=> [x,i]
 | .idx x i=> [x,i]
 | .extract x _=> [x]
 | .mkiface _ x=> [x]
 | .call f ags _=>f::ags.map (·.2)
 | .pcall f ags=>f::ags
 | .len _ x=> [x]
 | .append _ _ s x=> [s,x]
 | .mnmx _ xs=>xs
def AOpd.use:AOpd→List Nat
 | .t n=> [n]
 |_=> []
def AOper.uses (o:AOper):List Nat:=o.op.opds.flatMap AOpd.use++(match o.guard with|some (t,_)=> [t] |none=> [])
theorem Bxq {G:Gi} {e e':Env} {x:AOpd} (h: ∀t∈x.use,e.get t=e'.get t):Cw G e x=Cw G e' x:=by
 cases x<;>simp only[Cw]
 exact h _ (by simp[AOpd.use])
section
variable {cl:D6} {G:Gi} {n0:Bn} {H:Hp} {e e':Env}
theorem Bea: ∀ (qs:List (Nat×Nat×AOpd)) (cs:List V),(∀x∈qs.map (·.2.2),Cw G e x=Cw G e' x)→Qs G e cs qs=Qs G e' cs qs
 | [],_,_=>rfl
 | (off,n,x)::qs,cs,h=>by
  have hx:=h x (by simp)
  simp only[Qs,hx]
  split
  ·exact Bea qs _ fun y hy=>h y (by simp at hy⊢;exact .inr hy)
  ·rfl
theorem Bbt: ∀ (ags:List (Bool×AOpd)) (H:Hp),(∀x∈ags.map (·.2),Cw G e x=Cw G e' x)→Uo G e H ags=Uo G e' H ags
 | [],_,_=>rfl
 | (k,x)::ags,H,h=>by
  have hx:=h x (by simp)
  rw[Y0,Y0,hx]
  split
  ·rw[Bbt ags _ fun y hy=>h y (by simp at hy⊢;exact .inr hy)]
  ·rfl
theorem Me {d l:Nat} {x:Option AOpd} (h: ∀y∈Bf5 x,Cw G e y=Cw G e' y):Db G e d l x=Db G e' d l x:=by
 cases x with
 |none=>rfl
 |some x=>simp only[Db,h x (by simp[Bf5])]
theorem Bat {xs:List AOpd} (h: ∀x∈xs,Cw G e x=Cw G e' x):xs.map (Cw G e)=xs.map (Cw G e'):=List.map_congr_left h
theorem Bsd {op:AOp} (h: ∀x∈op.opds,Cw G e x=Cw G e' x):Ce cl G n0 e H op=Ce cl G n0 e' H op:=by
 cases op<;>simp only[AOp.opds,List.mem_cons,List.not_mem_nil,or_false,forall_eq_or_imp,forall_eq,Cdq] at h
 case mv x=>simp only[Ce,h]
 case pick c a b=>simp only[Ce,h]
 case alloc z=>rfl
 case box x=>simp only[Ce,h]
 case build z ps=>simp only[Ce,Bea ps z h]
 case lit own e ps=>simp only[Ce,Bat h]
 case litf en ps=>
  have h2:Uo G e H (ps.map fun x=> (true,x))=Uo G e' H (ps.map fun x=> (true,x)):=Bbt _ H fun x hx=>h x (by simpa using hx)
  simp only[Ce,h2]
 case load ag n a=>simp only[Ce,h]
 case store n a x=>simp only[Ce,h]
 case nilck x=>simp only[Ce,h]
 case bin op ty x y=>simp only[Ce,h]
 case un op x=>simp only[Ce,h]
 case cvInt k x=>simp only[Ce,h]
 case cvId x=>simp only[Ce,h]
 case cvStr x=>simp only[Ce,h]
 case mkfn f cs=>simp only[Ce,Bat h]
 case mkmap=>rfl
 case insert m k v=>simp only[Ce,h]
 case lookup z m k ok=>simp only[Ce,h]
 case mkslice e b z l c=>simp only[Ce,h]
 case slice oe x lo hi=>
  have h1:=h.1
  have h2: ∀d l,Db G e d l lo=Db G e' d l lo:=fun d l=>Me fun y hy=>h.2 y (.inl hy)
  have h3: ∀d l,Db G e d l hi=Db G e' d l hi:=fun d l=>Me fun y hy=>h.2 y (.inr hy)
  simp only[Ce,h1,h2,h3]
 case slicec ee x lo hi=>
  have h1:=h.1
  have h2: ∀d l,Db G e d l (some hi)=Db G e' d l (some hi):=fun d l=>Me fun y hy=>by simp only[Bf5,List.mem_singleton] at hy;subst hy;exact h.2.1
  have h3: ∀d l,Db G e d l lo=Db G e' d l lo:=fun d l=>Me fun y hy=>h.2.2 y hy
  simp only[Ce,h1,h2,h3]
 case slice3 ee x lo hi mx=>
  have h1:=h.1
  have h2: ∀d l,Db G e d l (some hi)=Db G e' d l (some hi):=fun d l=>Me fun y hy=>by simp only[Bf5,List.mem_singleton] at hy;subst hy;exact h.2.1
  have h3: ∀d l,Db G e d l (some mx)=Db G e' d l (some mx):=fun d l=>Me fun y hy=>by simp only[Bf5,List.mem_singleton] at hy;subst hy;exact h.2.2.1
  have h4: ∀d l,Db G e d l lo=Db G e' d l lo:=fun d l=>Me fun y hy=>h.2.2.2 y hy
  simp only[Ce,h1,h2,h3,h4]
 case clear ee z x=>simp only[Ce,h]
 case faddr off x=>simp only[Ce,h]
 case field ag off n x=>simp only[Ce,h]
 case iaddr e x i=>simp only[Ce,h]
 case idx x i=>simp only[Ce,h]
 case extract x i=>simp only[Ce,h]
 case mkiface t x=>simp only[Ce,h]
 case call f ags fr=>
  have h1:=h.1
  have h2:Uo G e H ags=Uo G e' H ags:=Bbt ags H h.2
  simp only[Ce,h1,h2]
 case pcall f ags=>
  have h1:=h.1
  have h2:=Bat h.2
  simp only[Ce,h1,h2]
 case len str x=>simp only[Ce,h]
 case append el b s x=>simp only[Ce,h]
 case mnmx mx xs=>simp only[Ce,Bat h]
noncomputable def Jm (cl:D6) (G:Gi) (n0:Bn) (o:AOper) (env:Env) (H:Hp):Option (V×Hp):=
 match o.guard with
 |none=>Ce cl G n0 env H o.op
 |some (t,want)=>
  match env.get t with
  | .d (.bool b)=> (bif b==want then Ce cl G n0 env H o.op else some (.und,H))
  | .und=>some (.und,H)
  |_=>none
theorem Bd1 (o:AOper) (st:St):Fa cl G n0 o st=(match Jm cl G n0 o st.env st.hp with|some (v,H)=>some ⟨st.env.put o.dst v,H⟩ |none=>none):=by
 obtain⟨dst,guard,op⟩:=o
 cases guard with
 |none=>rfl
 |some p=>
  obtain⟨t,want⟩:=p
  simp only[Fa,Jm]
  generalize st.env.get t=y
  cases y<;>try rfl
  rename_i x
  cases x<;>try rfl
  rename_i b
  cases hb: (b==want)<;>simp only[cond,hb]<;>rfl
theorem Tz {o:AOper} (h: ∀t∈o.uses,e.get t=e'.get t):Jm cl G n0 o e H=Jm cl G n0 o e' H:=by
 have h1:Ce cl G n0 e H o.op=Ce cl G n0 e' H o.op:=Bsd fun x hx=>Bxq fun t ht=>h t (by
  simp only[AOper.uses,Cdq,List.mem_flatMap]
  exact .inl ⟨x,hx,ht⟩)
 unfold Jm
 split
 ·exact h1
 ·rename_i t want hg
  rw[h t (by simp[AOper.uses,hg]),h1]
def Mg:AOp→Bool
 | .mv _| .pick .. | .build .. | .lit false _ _| .nilck _| .bin .. | .un .. | .cvInt .. | .cvId _| .mkfn .. | .lookup .. | .slice none .. | .slice3 .. | .faddr .. | .field .. | .idx .. | .extract .. | .mkiface .. | .len .. | .mnmx .. =>true
 |_=>false
def Rs:AOp→Bool
 | .load .. | .cvStr _| .slice .. | .slicec .. | .iaddr .. | .pcall .. =>true
 |_=>false
def Bfz:AOp→Bool
 | .alloc _| .box _| .lit true _ _| .mkslice .. | .mkmap=>true
 |_=>false
theorem Bnr {op:AOp} (hp:Mg op=true) {v:V} {H1:Hp} (h:Ce cl G n0 e H op=some (v,H1)):H1=H∧∀H',Ce cl G n0 e H' op=some (v,H'):=by
 cases op<;>simp only[Mg,Cdw] at hp
 case lit own en ps=>
  cases own<;>simp only[Cdw] at hp
  simp only[Ce] at h⊢
  repeat' split at h
  all_goals first| (simp only[reduceCtorEq] at h;done) | (simp only[Cdt,Cd2] at h;obtain⟨rfl,rfl⟩:=h;exact⟨rfl,fun H'=>by simp_all⟩)
 case slice oe x lo hi=>
  cases oe<;>simp only[Cdw] at hp
  simp only[Ce] at h⊢
  repeat' split at h
  all_goals first| (simp only[reduceCtorEq] at h;done) | (simp only[Cdt,Cd2] at h;obtain⟨rfl,rfl⟩:=h;exact⟨rfl,fun H'=>by simp_all⟩)
 all_goals
  simp only[Ce] at h⊢
  repeat' split at h
  all_goals first| (simp only[reduceCtorEq] at h;done) | (simp only[Cdt,Cd2] at h;obtain⟨rfl,rfl⟩:=h;exact⟨rfl,fun H'=>by simp_all⟩)
theorem Bed {r:Nat} {o x:Obj} (h:Cc H r=some x):Cc (Bp H o) r=some x:=by rw[Da o (Fu h)];exact h
theorem Ja {r g:Nat} {o:Obj} {x:Nat×List V} (h:C8 H r g=some x):C8 (Bp H o) r g=some x:=by
 unfold C8 at h⊢
 split at h
 ·rename_i hr;rw[Bed hr];exact h
 ·simp at h
theorem Bkw {r g i j n:Nat} {o:Obj} {cs:List V} (h:Dq H r g i j n=some cs):Dq (Bp H o) r g i j n=some cs:=by
 unfold Dq at h⊢
 split at h
 ·rename_i hr;rw[Ja hr];exact h
 ·simp at h
theorem Bue {v:V} {o:Obj} {x:Nat×List V×Bool} (h:R3 H v=some x):R3 (Bp H o) v=some x:=by
 unfold R3 at h⊢
 split at h
 ·exact h
 ·exact h
 ·split at h
  ·rename_i hr
   simp only[Ja hr];exact h
  ·simp at h
 ·simp at h
theorem Wv {v:V} {o:Obj} {x:D} (h:Kb H v=some x):Kb (Bp H o) v=some x:=by
 unfold Kb at h⊢
 split at h
 ·exact h
 ·exact h
 ·split at h
  ·rename_i hr
   simp only[Ja hr];exact h
  ·simp at h
 ·split at h
  ·rename_i hr
   simp only[Ja hr];exact h
  ·simp at h
 ·simp at h
theorem Kg {α β:Type} {f g:α→Option β} (h: ∀a b,f a=some b→g a=some b): ∀ {xs:List α} {ys:List β},Gp f xs=some ys→Gp g xs=some ys
 | [],_,hx=>hx
 |x::xs,ys,hx=>by
  simp only[Gp] at hx⊢
  split at hx
  ·rename_i b hb
   split at hx
   ·rename_i bs hbs
    rw[h _ _ hb]
    simp only[Kg h hbs]
    exact hx
   ·simp at hx
  ·simp at hx
theorem Bni {n:Nat} {o:Obj} : ∀ (d:Nat) (v:V) (x:D),fz n d H v=some x→fz n d (Bp H o) v=some x
 |0,v,x,h=>by simpa only[fz] using h
 |d+1,v,x,h=>by
  have ih:=Bni (n:=n) (o:=o) d
  cases v<;>simp only[fz] at h⊢ <;>try exact h
  ·split at h
   ·rename_i hx
    simp only[Kg ih hx];exact h
   ·simp at h
  ·split at h
   ·simp at h
   ·rename_i hn
    rw[if_neg hn]
    split at h
    ·rename_i hr
     simp only[Ja hr]
     split at h
     ·rename_i hi
      rw[if_pos hi]
      split at h
      ·rename_i hx
       simp only[Kg ih hx];exact h
      ·simp at h
     ·simp at h
    ·simp at h
  ·split at h
   ·simp at h
   ·rename_i hn
    rw[if_neg hn]
    split at h
    ·rename_i hr
     simp only[Ja hr]
     split at h
     ·rename_i hi
      try simp only[hi]
      split at h
      ·rename_i hx
       simp only[Kg ih hx];exact h
      ·simp at h
     ·simp at h
    ·simp at h
  ·split at h
   ·rename_i hx
    simp only[Kg ih hx];exact h
   ·simp at h
  ·split at h
   ·simp at h
   ·rename_i hn
    rw[if_neg hn]
    split at h
    ·rename_i hr
     simp only[Bed hr]
     split at h
     ·rename_i h1 h2
      simp only[Kg ih h1,Kg ih h2];exact h
     ·simp at h
    ·simp at h
theorem Bam {n d:Nat} {v:V} {o:Obj} {x:D} (h:Kb H v=none) (hz:fz n (d+1) H v=some x):Kb (Bp H o) v=none:=by
 cases v<;>simp only[Kb] at h⊢ <;>simp only[fz] at hz<;>try (first|exact h| (simp at h;done))
 ·split at hz
  ·simp at hz
  ·split at hz
   ·rename_i hr
    simp only[Ja hr]
    simp only[hr] at h
    exact h
   ·simp at hz
 ·split at hz
  ·simp at hz
  ·split at hz
   ·rename_i hr
    simp only[Ja hr]
    simp only[hr] at h
    exact h
   ·simp at hz
theorem Bqw {v:V} {o:Obj} {x:D} (h:Sb H v=some x):Sb (Bp H o) v=some x:=by
 unfold Sb at h⊢
 split at h
 ·split at h
  ·rename_i hx
   simp only[Kg (fun _ _=>Wv) hx];exact h
  ·simp at h
 ·split at h
  ·rename_i hx
   simp only[Kg (fun _ _=>Wv) hx];exact h
  ·simp at h
 ·split at h
  ·rename_i hy
   simp only[Wv hy];exact h
  ·rename_i hy
   simp only[Bam (d:=7) hy h]
   exact Bni _ _ _ h
theorem Bnw {op:AOp} (hp:Rs op=true) {v:V} {H1:Hp} (h:Ce cl G n0 e H op=some (v,H1)):H1=H∧∀ob,Ce cl G n0 e (Bp H ob) op=some (v,Bp H ob):=by
 cases op<;>simp only[Rs,Cdw] at hp
 case load ag n a=>
  simp only[Ce] at h⊢
  split at h
  ·split at h
   ·rename_i hl
    simp only[Bkw hl]
    split at h
    ·simp only[Cdt,Cd2] at h;obtain⟨rfl,rfl⟩:=h
     exact⟨rfl,fun ob=>by simp_all⟩
    ·simp at h
   ·simp at h
  ·split at h
   ·split at h
    ·simp only[Cdt,Cd2] at h;obtain⟨rfl,rfl⟩:=h
     exact⟨rfl,fun ob=>by simp_all⟩
    ·simp at h
   ·simp at h
  ·simp at h
 case cvStr x=>
  simp only[Ce] at h⊢
  split at h
  ·rename_i hs
   simp only[Bue hs]
   split at h
   ·split at h
    ·simp only[Cdt,Cd2] at h;obtain⟨rfl,rfl⟩:=h
     exact⟨rfl,fun ob=>by simp_all⟩
    ·simp at h
   ·simp at h
  ·simp at h
 case slice oe x lo hi=>
  simp only[Ce] at h⊢
  split at h
  ·repeat' split at h
   all_goals first| (simp only[reduceCtorEq] at h;done) | (simp only[Cdt,Cd2] at h;obtain⟨rfl,rfl⟩:=h;exact⟨rfl,fun H'=>by simp_all⟩)
  ·repeat' split at h
   all_goals first| (simp only[reduceCtorEq] at h;done) | (simp only[Cdt,Cd2] at h;obtain⟨rfl,rfl⟩:=h;exact⟨rfl,fun H'=>by simp_all⟩)
  ·split at h
   ·rename_i hr
    simp only[Ja hr]
    repeat' split at h
    all_goals first| (simp only[reduceCtorEq] at h;done) | (simp only[Cdt,Cd2] at h;obtain⟨rfl,rfl⟩:=h;exact⟨rfl,fun H'=>by simp_all⟩)
   ·simp at h
  ·simp at h
 case slicec el x lo hi=>
  simp only[Ce] at h⊢
  split at h
  ·split at h
   ·rename_i hr
    simp only[Ja hr]
    repeat' split at h
    all_goals first| (simp only[reduceCtorEq] at h;done) | (simp only[Cdt,Cd2] at h;obtain⟨rfl,rfl⟩:=h;exact⟨rfl,fun H'=>by simp_all⟩)
   ·simp at h
  ·simp at h
 case iaddr el x i=>
  simp only[Ce] at h⊢
  split at h
  ·split at h
   ·split at h
    ·simp only[Cdt,Cd2] at h;obtain⟨rfl,rfl⟩:=h
     exact⟨rfl,fun ob=>by simp_all⟩
    ·simp at h
   ·split at h
    ·split at h
     ·rename_i hr
      simp only[Ja hr]
      split at h
      ·simp only[Cdt,Cd2] at h;obtain⟨rfl,rfl⟩:=h
       exact⟨rfl,fun ob=>by simp_all⟩
      ·simp at h
     ·simp at h
    ·simp at h
   ·simp at h
  ·simp at h
 case pcall f ags=>
  simp only[Ce] at h⊢
  split at h
  ·split at h
   ·rename_i hm
    simp only[Kg (fun _ _=>Bqw) hm]
    split at h
    ·split at h
     ·simp only[Cdt,Cd2] at h;obtain⟨rfl,rfl⟩:=h
      exact⟨rfl,fun ob=>by simp_all⟩
     ·simp at h
    ·split at h
     ·split at h
      ·simp only[Cdt,Cd2] at h;obtain⟨rfl,rfl⟩:=h
       exact⟨rfl,fun ob=>by simp_all⟩
      ·simp at h
     ·simp at h
   ·simp at h
  ·simp at h
theorem Bns {op:AOp} (hp:Bfz op=true) {v:V} {H1:Hp} (h:Ce cl G n0 e H op=some (v,H1)): ∃ob,H1=Bp H ob:=by
 cases op<;>simp only[Bfz,Cdw] at hp
 case lit own en ps=>
  cases own<;>simp only[Cdw] at hp
  simp only[Ce] at h
  split at h
  ·simp only[Cdt,Cd2] at h;exact⟨_,h.2.symm⟩
  ·simp at h
 case mkmap=>simp only[Ce,Cdt,Cd2] at h;exact⟨_,h.2.symm⟩
 case mkslice en b z l c=>
  simp only[Ce] at h
  split at h
  ·split at h
   ·simp only[Cdt,Cd2] at h;exact⟨_,h.2.symm⟩
   ·simp at h
  ·simp at h
 all_goals
  simp only[Ce] at h
  split at h
  ·simp only[Cdt,Cd2] at h;exact⟨_,h.2.symm⟩
  ·simp at h
end
end Go.Ev
