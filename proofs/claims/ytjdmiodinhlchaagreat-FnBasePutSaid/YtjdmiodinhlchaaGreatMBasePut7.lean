/- Lemmas (several texts in one). -/
import Derived.Test.YtjdmiodinhlchaaGreatMBasePut4
import Derived.Test.YtjdmiodinhlchaaGreatMBasePut5
import Derived.Test.YtjdmiodinhlchaaGreatMBasePut6
set_option maxRecDepth 100000
set_option linter.unusedSimpArgs false
set_option linter.unusedVariables false
set_option linter.defProp false
set_option maxHeartbeats 4000000
namespace Go.Proofs.YtjdmiodinhlchaaGreat.Code
open Go Go.Ev Go.Proofs
abbrev Sc:=Bp×Int
abbrev Pr:=Bp×Bp
def Jq (x:Sc):D:= .agg [.str x.1, .int .i64 x.2]
def Ka (x:Pr):D:= .agg [.str x.1, .str x.2]
abbrev Dr (xs:List Sc):D:= .vals 2 (xs.map Jq)
abbrev Fs (xs:List Pr):D:= .vals 2 (xs.map Ka)
structure En where
 key:Bp
 till:Int
 kind:Int
 text:Bp
 list:List Bp
 scores:List Sc
 fields:List Pr
def F6 (e:En):D:= .agg [.str e.key, .int .i64 e.till, .int .i64 e.kind, .str e.text,Bf e.list,Dr e.scores,Fs e.fields]
def Bp4 (n:Int):Prop:= -9223372036854775808≤n∧n≤9223372036854775807
structure EnFit (e:En):Prop where
 key:e.key.length≤9223372036854775807
 text:e.text.length≤9223372036854775807
 list:e.list.length≤9223372036854775807
 lists: ∀i,(e.list.getD i []).length≤9223372036854775807
 scores:e.scores.length≤9223372036854775807
 scoress: ∀i,((e.scores.getD i ([],0)).1).length≤9223372036854775807
 fields:e.fields.length≤9223372036854775807
 fieldss: ∀i,((e.fields.getD i ([],[])).1).length≤9223372036854775807∧((e.fields.getD i ([],[])).2).length≤9223372036854775807
 till:Bp4 e.till
 kind:Bp4 e.kind
structure Ba where
 now:Int
 ents:List En
abbrev M7 (es:List En):D:= .vals 7 (es.map F6)
def Dx (b:Ba):D:= .agg [.int .i64 b.now,M7 b.ents]
inductive Re where
 |mk (kind num:Int) (text:Bp) (texts:List Bp) (Sg:List Re)
def Re.kind:Re→Int| .mk k _ _ _ _=>k
def Re.num:Re→Int| .mk _ n _ _ _=>n
def Re.text:Re→Bp| .mk _ _ t _ _=>t
def Re.texts:Re→List Bp| .mk _ _ _ l _=>l
def Re.many:Re→List Re| .mk _ _ _ _ m=>m
def Z4:Re→D
 | .mk k n t l m=> .agg [.int .i64 k, .int .i64 n, .str t,Bf l, .vals 5 (m.attach.map fun x=>Z4 x.1)]
termination_by r=>SizeOf.sizeOf r
decreasing_by
 have:=List.sizeOf_lt_of_mem x.2
 simp only[Re.mk.sizeOf_spec]
 omega
theorem Bff (k n:Int) (t:Bp) (l:List Bp) (m:List Re):Z4 (.mk k n t l m)= .agg [.int .i64 k, .int .i64 n, .str t,Bf l, .vals 5 (m.map Z4)]:=by
 rw[Z4.eq_1]
 simp
theorem Bo2 (x:Sc): (Jq x).cells=[.str x.1, .int .i64 x.2]:=rfl
theorem Bk4 (x:Sc): (V.d (Jq x)).cells=[.d (.str x.1), .d (.int .i64 x.2)]:=rfl
theorem Bwf (x:Sc): (V.d (Jq x)).isAgg=true:=rfl
theorem Bsm (a:Bp) (n:Int):D.agg [.str a, .int .i64 n]=Jq (a,n):=rfl
theorem Boo (x:Pr): (Ka x).cells=[.str x.1, .str x.2]:=rfl
theorem Bko (x:Pr): (V.d (Ka x)).cells=[.d (.str x.1), .d (.str x.2)]:=rfl
theorem Bv5 (x:Pr): (V.d (Ka x)).isAgg=true:=rfl
theorem Brw (a b:Bp):D.agg [.str a, .str b]=Ka (a,b):=rfl
theorem Bnv (e:En): (F6 e).cells=[.str e.key, .int .i64 e.till, .int .i64 e.kind, .str e.text,Bf e.list,Dr e.scores,Fs e.fields]:=rfl
theorem Bjk (e:En): (V.d (F6 e)).cells=[.d (.str e.key), .d (.int .i64 e.till), .d (.int .i64 e.kind), .d (.str e.text), .d (Bf e.list), .d (Dr e.scores), .d (Fs e.fields)]:=rfl
theorem Bvo (e:En): (V.d (F6 e)).isAgg=true:=rfl
theorem Bqx (k:Bp) (t d:Int) (x:Bp) (l:List Bp) (s:List Sc) (f:List Pr):D.agg [.str k, .int .i64 t, .int .i64 d, .str x, .vals 1 (l.map D.str),Dr s,Fs f]=F6 ⟨k,t,d,x,l,s,f⟩:=rfl
theorem Bng (b:Ba): (Dx b).cells=[.int .i64 b.now,M7 b.ents]:=rfl
theorem Bi3 (b:Ba): (V.d (Dx b)).cells=[.d (.int .i64 b.now), .d (M7 b.ents)]:=rfl
theorem Bu0 (b:Ba): (V.d (Dx b)).isAgg=true:=rfl
theorem Bqi (n:Int) (es:List En):D.agg [.int .i64 n,M7 es]=Dx ⟨n,es⟩:=rfl
instance:Inhabited En:=⟨⟨[],0,0,[],[],[],[]⟩⟩
theorem Jk (es:List En) (i:Nat) (hi:i<es.length): (es.map F6).getD i .nilp=F6 (es.getD i default):=by
 simp[List.getD_eq_getElem?_getD,hi]
theorem Gp {α:Type} {xs:List α} {i:Nat} {d:α} (hi:i<xs.length):xs.getD i d∈xs:=by
 rw[List.getD_eq_getElem?_getD,List.getElem?_eq_getElem hi]
 exact List.getElem_mem hi
structure BaFit (b:Ba):Prop where
 now:Bp4 b.now
 len:b.ents.length≤9223372036854775807
 each: ∀e∈b.ents,EnFit e
theorem Bq7 (n e:Nat) (H:Hp):Y0 n H (.nils e)=some (.d (.vals e [])):=rfl
theorem Bks (r:Re):Z4 r= .agg [.int .i64 r.kind, .int .i64 r.num, .str r.text,Bf r.texts, .vals 5 (r.many.map Z4)]:=by
 cases r;exact Bff ..
theorem Bov (r:Re): (Z4 r).cells=[.int .i64 r.kind, .int .i64 r.num, .str r.text,Bf r.texts, .vals 5 (r.many.map Z4)]:=by rw[Bks];rfl
theorem Bkt (r:Re): (V.d (Z4 r)).cells=[.d (.int .i64 r.kind), .d (.int .i64 r.num), .d (.str r.text), .d (Bf r.texts), .d (.vals 5 (r.many.map Z4))]:=by rw[Bks];rfl
theorem Bwb (r:Re): (V.d (Z4 r)).isAgg=true:=by rw[Bks];rfl
theorem Br8 (k n:Int) (t:Bp) (l:List Bp) (m:List Re):D.agg [.int .i64 k, .int .i64 n, .str t, .vals 1 (l.map D.str), .vals 5 (m.map Z4)]=Z4 (.mk k n t l m):=(Bff ..).symm
theorem Bow (k n:Int) (t:Bp):D.agg [.int .i64 k, .int .i64 n, .str t, .vals 1 [], .vals 5 []]=Z4 (.mk k n t [] []):=(Bff k n t [] []).symm
theorem Box (k n:Int) (t:Bp) (l:List Bp):D.agg [.int .i64 k, .int .i64 n, .str t, .vals 1 (l.map D.str), .vals 5 []]=Z4 (.mk k n t l []):=(Bff k n t l []).symm
theorem Bzu (r:Re):Re.mk r.kind r.num r.text r.texts r.many=r:=by cases r;rfl
theorem Bnw (k:Bp) (t d:Int) (x:Bp):D.agg [.str k, .int .i64 t, .int .i64 d, .str x, .vals 1 [], .vals 2 [], .vals 2 []]=F6 ⟨k,t,d,x,[],[],[]⟩:=rfl
theorem Fx (n:Int):D.agg [.int .i64 n, .vals 7 []]=Dx ⟨n,[]⟩:=rfl
theorem gd0 {α:Type} (x:α) (r:List α) (d:α): (x::r).getD 0 d=x:=rfl
theorem gd1 {α:Type} (x y:α) (r:List α) (d:α): (x::y::r).getD 1 d=y:=rfl
theorem gd2 {α:Type} (x y z:α) (r:List α) (d:α): (x::y::z::r).getD 2 d=z:=rfl
theorem gd3 {α:Type} (x y z u:α) (r:List α) (d:α): (x::y::z::u::r).getD 3 d=u:=rfl
theorem gd4 {α:Type} (x y z u v:α) (r:List α) (d:α): (x::y::z::u::v::r).getD 4 d=v:=rfl
theorem gd5 {α:Type} (x y z u v w:α) (r:List α) (d:α): (x::y::z::u::v::w::r).getD 5 d=w:=rfl
theorem B0p {α:Type} (x:α) (l:List α): [x]++l=x::l:=rfl
theorem B0q {α:Type} (l:List α): []++l=l:=rfl
theorem B0r {α:Type} (x:α) (l m:List α):x::l++m=x:: (l++m):=rfl
theorem B45 {α:Type} {l:List α} {i:Nat} (h:l.length≤i):List.take i l=l:=List.take_of_length_le h
theorem B46 {α β:Type} (f:α→β) (x:α) (l:List α):List.map f (x::l)=f x::List.map f l:=rfl
theorem Bze (G:Gv) (env:Ev.Env) (H:Hp):Ev.Ub G env H []=some ([],H):=rfl
theorem Bzd (G:Gv) (env:Ev.Env) (H:Hp) (k:Bool) (x:AOpd) (r:List (Bool×AOpd)):Ev.Ub G env H ((k,x)::r)=(match Y1 H k (Dm G env x) with
  |some (v,H)=> (match Ev.Ub G env H r with
   |some (vs,H)=>some (v::vs,H)
   |none=>none)
  |none=>none):=rfl
theorem B47 {α β:Type} (f:α→β):List.map f []=[]:=rfl
def Bwh:=And.intro @Uf.eq_1 (And.intro @Uf.eq_2 (And.intro @Uf.eq_3 (And.intro @Uf.eq_def (And.intro @Bld.eq_1 (And.intro @Bld.eq_2 (And.intro @Bh7.eq_1 (And.intro @Bh7.eq_2 (And.intro @Bh7.eq_3 (And.intro @Bh7.eq_def (And.intro @Db.eq_1 (@Bq.eq_1)))))))))))
def Bwi:=And.intro @Bq.eq_2 (And.intro @Bq.eq_3 (And.intro @Bq.eq_4 (And.intro @Bq.eq_5 (And.intro @Bq.eq_6 (And.intro @Bq.eq_7 (And.intro @Bq.eq_8 (And.intro @Bq.eq_9 (And.intro @Bq.eq_10 (And.intro @Bq.eq_11 (And.intro @Bq.eq_12 (@Pj.eq_1)))))))))))
def Bwj:=And.intro @Pj.eq_2 (And.intro @F4.eq_1 (And.intro @evX.eq_1 (And.intro @evX.eq_2 (And.intro @evX.eq_3 (And.intro @Go.Ev.Blo.eq_1 (And.intro @Cf.eq_1 (And.intro @Cf.eq_2 (And.intro @Cf.eq_3 (And.intro @Cf.eq_4 (And.intro @Cf.eq_5 (@Cf.eq_6)))))))))))
def Bwk:=And.intro @Cf.eq_7 (And.intro @Cf.eq_8 (And.intro @Cf.eq_9 (And.intro @Cf.eq_10 (And.intro @Cf.eq_11 (And.intro @Cf.eq_12 (And.intro @Cf.eq_13 (And.intro @Cf.eq_14 (And.intro @Cf.eq_15 (And.intro @Cf.eq_16 (And.intro @Cf.eq_17 (@Cf.eq_18)))))))))))
def Bwl:=And.intro @Cf.eq_19 (And.intro @Cf.eq_20 (And.intro @Cf.eq_21 (And.intro @Cf.eq_22 (And.intro @Cf.eq_23 (And.intro @Cf.eq_24 (And.intro @Cf.eq_25 (And.intro @Cf.eq_26 (And.intro @Cf.eq_27 (And.intro @Cf.eq_28 (And.intro @Cf.eq_29 (@Cf.eq_30)))))))))))
def Bwm:=And.intro @Cf.eq_31 (And.intro @Cf.eq_32 (And.intro @Cf.eq_33 (And.intro @Cf.eq_34 (And.intro @Cf.eq_35 (And.intro @Cf.eq_36 (And.intro @Cf.eq_37 (And.intro @Cf.eq_38 (And.intro @Cf.eq_39 (And.intro @Cf.eq_40 (And.intro @Cf.eq_41 (@Cf.eq_42)))))))))))
def Bwn:=And.intro @Cf.eq_43 (And.intro @Cf.eq_def (And.intro @Dm.eq_1 (And.intro @Dm.eq_2 (And.intro @Dm.eq_3 (And.intro @Dm.eq_4 (And.intro @Dm.eq_5 (And.intro @Dm.eq_6 (And.intro @Dm.eq_def (And.intro @Go.Ev.Env.get.eq_1 (And.intro @Go.Ev.Env.get.eq_2 (@Go.Ev.Env.put.eq_1)))))))))))
def Bwo:=And.intro @Go.Ev.Env.put.eq_2 (And.intro @Go.Ev.Env.keep.eq_1 (And.intro @Go.Ev.Env.keep.eq_2 (And.intro @Qe.eq_1 (And.intro @Qe.eq_2 (And.intro @V.ok.eq_1 (And.intro @V.ok.eq_2 (And.intro @V.ok.eq_def (And.intro @V.sto.eq_1 (And.intro @V.sto.eq_2 (And.intro @V.sto.eq_3 (@V.sto.eq_4)))))))))))
def Bwp:=And.intro @V.sto.eq_def (And.intro @Zj.eq_1 (And.intro @Zj.eq_2 (And.intro @Zj.eq_3 (And.intro @Zj.eq_4 (And.intro @Zj.eq_5 (And.intro @Zj.eq_6 (And.intro @Zj.eq_7 (And.intro @Zj.eq_8 (And.intro @Zj.eq_def (And.intro @Gx.eq_1 (@Gx.eq_2)))))))))))
def Bwq:=And.intro @Gx.eq_3 (And.intro @Gx.eq_4 (And.intro @Gx.eq_5 (And.intro @Gx.eq_6 (And.intro @Gx.eq_7 (And.intro @Gx.eq_8 (And.intro @Gx.eq_9 (And.intro @Gx.eq_10 (And.intro @Gx.eq_11 (And.intro @Gx.eq_12 (And.intro @Gx.eq_def (@M0.eq_1)))))))))))
def Bmy:=And.intro @M0.eq_2 (And.intro @M0.eq_3 (And.intro @M0.eq_4 (And.intro @M0.eq_5 (And.intro @M0.eq_6 (And.intro @M0.eq_7 (And.intro @M0.eq_8 (And.intro @M0.eq_def (And.intro @Zd.eq_1 (And.intro @Zd.eq_2 (And.intro @Zd.eq_3 (@Zd.eq_def)))))))))))
def Bmz:=And.intro @unD.eq_1 (And.intro @unD.eq_2 (And.intro @unD.eq_3 (And.intro @unD.eq_def (And.intro @Bao.eq_1 (And.intro @Bao.eq_2 (And.intro @Bao.eq_3 (And.intro @Bao.eq_4 (And.intro @Bao.eq_5 (And.intro @Bao.eq_6 (And.intro @Bao.eq_def (@asI.eq_1)))))))))))
def Bm0:=And.intro @asI.eq_2 (And.intro @asI.eq_def (And.intro @Bgr.eq_1 (And.intro @Sr.eq_1 (And.intro @Sr.eq_2 (And.intro @Sr.eq_3 (And.intro @Sr.eq_def (And.intro @Jc.eq_1 (And.intro @Jc.eq_2 (And.intro @fzV.eq_1 (And.intro @fzV.eq_2 (@fzV.eq_def)))))))))))
def Bm1:=And.intro @fzA.eq_1 (And.intro @fzA.eq_2 (And.intro @fzA.eq_3 (And.intro @fzA.eq_def (And.intro @Bci.eq_1 (And.intro @Bci.eq_2 (And.intro @Bci.eq_def (And.intro @Rx.eq_1 (And.intro @Rx.eq_2 (And.intro @Rx.eq_3 (And.intro @Rx.eq_def (@Jp.eq_1)))))))))))
def Bm2:=And.intro @Jp.eq_2 (And.intro @Jp.eq_3 (And.intro @Jp.eq_4 (And.intro @Jp.eq_5 (And.intro @Jp.eq_def (And.intro @Ke.eq_1 (And.intro @Ke.eq_2 (And.intro @Ke.eq_3 (And.intro @Ke.eq_4 (And.intro @Ke.eq_def (And.intro @Bze (@Bzd)))))))))))
def Bm3:=And.intro @Yz.eq_1 (And.intro @Yz.eq_2 (And.intro @Yz.eq_3 (And.intro @Yz.eq_def (And.intro @Ws.eq_1 (And.intro @Ws.eq_2 (And.intro @Ws.eq_3 (And.intro @Ws.eq_4 (And.intro @Ws.eq_def (And.intro @Gw.eq_1 (And.intro @Gw.eq_2 (@Gw.eq_3)))))))))))
def Bm4:=And.intro @M9.eq_1 (And.intro @La.eq_1 (And.intro @La.eq_2 (And.intro @La.eq_3 (And.intro @La.eq_def (And.intro @Bu1 (And.intro @IntKind.bits.eq_1 (And.intro @IntKind.bits.eq_2 (And.intro @IntKind.bits.eq_3 (And.intro @IntKind.bits.eq_4 (And.intro @IntKind.bits.eq_5 (@IntKind.bits.eq_6)))))))))))
def Bm5:=And.intro @IntKind.bits.eq_7 (And.intro @IntKind.bits.eq_8 (And.intro @IntKind.bits.eq_def (And.intro @Y1.eq_1 (And.intro @Y1.eq_2 (And.intro @Y1.eq_def (And.intro @mV.eq_1 (And.intro @oP.eq_1 (And.intro @oG.eq_1 (And.intro @oN.eq_1 (And.intro @oL.eq_1 (@oF.eq_1)))))))))))
def s_0:=And.intro @V.cells.eq_1 (And.intro @V.cells.eq_2 (And.intro @V.cells.eq_3 (And.intro @V.cells.eq_def (And.intro @D.cells.eq_1 (And.intro @D.cells.eq_2 (And.intro @D.cells.eq_def (And.intro @V.isAgg.eq_1 (And.intro @V.isAgg.eq_2 (And.intro @V.isAgg.eq_3 (And.intro @V.isAgg.eq_def (@Y0.eq_1)))))))))))
def s_1:=And.intro @Y0.eq_2 (And.intro @Y0.eq_3 (And.intro @Y0.eq_4 (And.intro @Y0.eq_def (And.intro @Dl.eq_1 (@Bc.eq_1)))))
def B8u:=And.intro @V.cells.eq_1 (And.intro @V.cells.eq_2 (And.intro @V.cells.eq_3 (And.intro @V.cells.eq_def (And.intro @D.cells.eq_1 (And.intro @D.cells.eq_2 (And.intro @D.cells.eq_def (And.intro @V.isAgg.eq_1 (And.intro @V.isAgg.eq_2 (And.intro @V.isAgg.eq_3 (And.intro @V.isAgg.eq_def (@Gu)))))))))))
def B8v:=And.intro @Fp (And.intro @Fa (And.intro @Qj (And.intro @Dj (And.intro @Rf.eq_1 (And.intro @Kg.eq_1 (And.intro @Kg.eq_2 (And.intro @Kg.eq_3 (And.intro @Kg.eq_def (And.intro @F8.eq_1 (And.intro @F8.eq_2 (@F8.eq_3)))))))))))
def B8w:=And.intro @F8.eq_4 (And.intro @F8.eq_5 (And.intro @F8.eq_def (And.intro @Bq6 (@Bvu))))
def B8b:=And.intro @V.cells.eq_1 (And.intro @V.cells.eq_2 (And.intro @V.cells.eq_3 (And.intro @V.cells.eq_def (And.intro @D.cells.eq_1 (And.intro @D.cells.eq_2 (And.intro @D.cells.eq_def (And.intro @V.isAgg.eq_1 (And.intro @V.isAgg.eq_2 (And.intro @V.isAgg.eq_3 (And.intro @V.isAgg.eq_def (@Rf.eq_1)))))))))))
def B8c:=And.intro @Kg.eq_1 (And.intro @Kg.eq_2 (And.intro @Kg.eq_3 (And.intro @Kg.eq_def (And.intro @F8.eq_1 (And.intro @F8.eq_2 (And.intro @F8.eq_3 (And.intro @F8.eq_4 (And.intro @F8.eq_5 (And.intro @F8.eq_def (And.intro @Wx.eq_1 (@Wx.eq_2)))))))))))
def B8d:=And.intro @Wx.eq_3 (And.intro @Wx.eq_4 (And.intro @Wx.eq_5 (And.intro @Wx.eq_def (And.intro @Bq6 (And.intro @ap0 (And.intro @Bl0 (And.intro @Nr (And.intro @Bee (And.intro @Xx (And.intro @Bl1 (@Bad)))))))))))
def B8e:=And.intro @Mh (And.intro @Bae (And.intro @Biz (And.intro @Blz (And.intro @Bqd (And.intro @Bly (And.intro @Bed (And.intro @Bft (And.intro @Bqc (And.intro @Blv (And.intro @Blw (@Blx)))))))))))
def B8f:=And.intro @Di.eq_1 (And.intro @D5.eq_1 (And.intro @M4.eq_1 (And.intro @Ce.eq_1 (And.intro @Ce.eq_2 (And.intro @Ce.eq_3 (And.intro @Bv.eq_1 (And.intro @Bv.eq_2 (And.intro @Bv.eq_3 (And.intro @Ls.eq_1 (And.intro @Ls.eq_2 (@Ls.eq_3)))))))))))
def B8g:=And.intro @Ls.eq_def (And.intro @Rm.eq_1 (And.intro @Rm.eq_2 (And.intro @Rm.eq_3 (And.intro @Rm.eq_4 (And.intro @Rm.eq_def (And.intro @Qu (And.intro @Bab (And.intro @Bqe (And.intro @Ber.eq_1 (And.intro @Ber.eq_2 (@B0p)))))))))))
def B8h:=And.intro @B0q (@B0r)
def B8i:=And.intro @Rf.eq_1 (And.intro @Kg.eq_1 (And.intro @Kg.eq_2 (And.intro @Kg.eq_3 (And.intro @Kg.eq_def (And.intro @F8.eq_1 (And.intro @F8.eq_2 (And.intro @F8.eq_3 (And.intro @F8.eq_4 (And.intro @F8.eq_5 (And.intro @F8.eq_def (@Wx.eq_1)))))))))))
def B8j:=And.intro @Wx.eq_2 (And.intro @Wx.eq_3 (And.intro @Wx.eq_4 (And.intro @Wx.eq_5 (And.intro @Wx.eq_def (And.intro @Bq6 (And.intro @ap0 (And.intro @Nr (And.intro @Bee (And.intro @Xx (And.intro @Bl1 (@Bad)))))))))))
def B8k:=And.intro @Mh (And.intro @Bae (And.intro @Biz (And.intro @Blz (And.intro @Bqd (And.intro @Bly (And.intro @Bed (And.intro @Bft (And.intro @Bqc (And.intro @Blv (And.intro @Blw (@Blx)))))))))))
def B8l:=And.intro @Di.eq_1 (And.intro @D5.eq_1 (And.intro @M4.eq_1 (And.intro @Ce.eq_1 (And.intro @Ce.eq_2 (And.intro @Ce.eq_3 (And.intro @Bv.eq_1 (And.intro @Bv.eq_2 (And.intro @Bv.eq_3 (And.intro @Ls.eq_1 (And.intro @Ls.eq_2 (@Ls.eq_3)))))))))))
def B8m:=And.intro @Ls.eq_def (And.intro @Rm.eq_1 (And.intro @Rm.eq_2 (And.intro @Rm.eq_3 (And.intro @Rm.eq_4 (And.intro @Rm.eq_def (And.intro @Qu (And.intro @Bab (And.intro @Bqe (And.intro @Ber.eq_1 (And.intro @Ber.eq_2 (@B0p)))))))))))
def B8n:=And.intro @B0q (And.intro @B0r (And.intro @Bqb (And.intro @Bz9 (And.intro @Bxb (And.intro @Bz1 (And.intro @Bw3 (And.intro @By0 (And.intro @B0f (And.intro @Bz7 (And.intro @By3 (@B0c)))))))))))
def B8o:=And.intro @Bz4 (And.intro @By2 (And.intro @Bxa (And.intro @Bw2 (And.intro @Bu6 (And.intro @Bxh (And.intro @Bw9 (And.intro @Bva (And.intro @Bxe (And.intro @Bw6 (And.intro @Bu8 (@Bxg)))))))))))
def B8p:=And.intro @Bw8 (And.intro @Bu9 (And.intro @B0a (And.intro @Bz2 (And.intro @By1 (And.intro @Bte (And.intro @Btc (And.intro @Bqr (And.intro @Btd (And.intro @Btb (And.intro @Bqq (@Bpk)))))))))))
def B8q:=And.intro @Bpj (And.intro @Bnn (And.intro @Bxd (And.intro @Bw5 (And.intro @Bu7 (And.intro @B0e (And.intro @Bz6 (And.intro @B0d (And.intro @Bz5 (And.intro @B0b (And.intro @Bz3 (@Bxc)))))))))))
def B8r:=And.intro @Bw4 (And.intro @Bxf (And.intro @Bw7 (And.intro @B0g (And.intro @Bz8 (And.intro @Bo2 (And.intro @Bk4 (And.intro @Bwf (And.intro @Bsm (And.intro @Boo (And.intro @Bko (@Bv5)))))))))))
def B4b:=And.intro @Brw (And.intro @Bnv (And.intro @Bjk (And.intro @Bvo (And.intro @Bqx (And.intro @Bng (And.intro @Bi3 (And.intro @Bu0 (And.intro @Bqi (And.intro @Gu (And.intro @Uu (@Blt.eq_1)))))))))))
def B4c:=And.intro @Blt.eq_2 (And.intro @Blt.eq_def (And.intro @Buy.eq_1 (And.intro @Buy.eq_2 (And.intro @Buy.eq_def (And.intro @Bh5 (And.intro @Bph (And.intro @Bsz (And.intro @Bjo (And.intro @Bvt (And.intro @Bgw (@Bbj)))))))))))
def B4d:=And.intro @B5p (@B45)
def B8s:=And.intro @Qi.eq_1 (And.intro @Qi.eq_2 (And.intro @Bd7.eq_1 (And.intro @Bq7 (And.intro @Bov (And.intro @Bkt (And.intro @Bwb (And.intro @Br8 (And.intro @Bow (And.intro @Box (And.intro @Bzu (@Bnw)))))))))))
def B8t:=And.intro @Ru.eq_1 (And.intro @Ru.eq_2 (And.intro @Ru.eq_3 (@Ru.eq_def)))
def B8x:=And.intro @Dp.eq_1 (And.intro @Dp.eq_2 (And.intro @Dp.eq_def (And.intro @Mj.eq_1 (And.intro @Mj.eq_2 (And.intro @Mj.eq_3 (And.intro @Mj.eq_1 (And.intro @Mj.eq_2 (And.intro @Mj.eq_3 (And.intro @Mj.eq_def (And.intro @gd0 (@gd1)))))))))))
def B8y:=And.intro @gd2 (And.intro @gd3 (And.intro @gd4 (And.intro @gd5 (And.intro @Bf.eq_1 (And.intro @B46 (@B47))))))
def B8z:=And.intro @Brm.eq_1 (And.intro @Xa.eq_1 (And.intro @Xa.eq_2 (And.intro @W9.eq_1 (And.intro @W9.eq_2 (And.intro @W9.eq_def (And.intro @Bbr.eq_1 (And.intro @Bbr.eq_2 (And.intro @Sd.eq_1 (And.intro @Sd.eq_2 (And.intro @Sd.eq_def (@Ud.eq_1)))))))))))
def B80:=And.intro @Ud.eq_2 (And.intro @Ud.eq_3 (And.intro @Ud.eq_4 (And.intro @Ud.eq_5 (@Ud.eq_def))))
def evE:=And.intro Bwh (And.intro Bwi (And.intro Bwj (And.intro Bwk (And.intro Bwl (And.intro Bwm (And.intro Bwn (And.intro Bwo (And.intro Bwp (And.intro Bwq (And.intro Bmy (And.intro Bmz (And.intro Bm0 (And.intro Bm1 (And.intro Bm2 (And.intro Bm3 (And.intro Bm4 (And.intro Bm5 (And.intro s_0 (s_1)))))))))))))))))))
def Cu:=And.intro Bwh (And.intro Bwi (And.intro Bwj (And.intro Bwk (And.intro Bwl (And.intro Bwm (And.intro Bwn (And.intro Bwo (And.intro Bwp (And.intro Bwq (And.intro Bmy (And.intro Bmz (And.intro Bm0 (And.intro Bm1 (And.intro Bm2 (And.intro Bm3 (And.intro Bm4 (And.intro Bm5 (And.intro B8u (And.intro B8v (B8w))))))))))))))))))))
def evA:=And.intro Bwh (And.intro Bwi (And.intro Bwj (And.intro Bwk (And.intro Bwl (And.intro Bwm (And.intro Bwn (And.intro Bwo (And.intro Bwp (And.intro Bwq (And.intro Bmy (And.intro Bmz (And.intro Bm0 (And.intro Bm1 (And.intro Bm2 (And.intro Bm3 (And.intro Bm4 (And.intro Bm5 (And.intro B8b (And.intro B8c (And.intro B8d (And.intro B8e (And.intro B8f (And.intro B8g (B8h))))))))))))))))))))))))
def X6:=And.intro Bwh (And.intro Bwi (And.intro Bwj (And.intro Bwk (And.intro Bwl (And.intro Bwm (And.intro Bwn (And.intro Bwo (And.intro Bwp (And.intro Bwq (And.intro Bmy (And.intro Bmz (And.intro Bm0 (And.intro Bm1 (And.intro Bm2 (And.intro Bm3 (And.intro Bm4 (And.intro Bm5 (And.intro B8i (And.intro B8j (And.intro B8k (And.intro B8l (And.intro B8m (And.intro B8n (And.intro B8o (And.intro B8p (And.intro B8q (And.intro B8r (And.intro B4b (And.intro B4c (B4d))))))))))))))))))))))))))))))
def Cn:=And.intro X6 (And.intro B8s (B8t))
def Cm:=And.intro Cn (And.intro B8x (B8y))
def Ug:=And.intro B8z (B80)
def Km (xs:List Bp) (i:Nat):Bool:=decide (40< (xs.getD i []).length)
def Cq (xs:List Bp):Bool:=(Fz (Km xs) xs.length 0).isNone&&decide (xs.length≤16)
theorem B1k (n0:Nat) (xs:List Bp) (hx:xs.length≤9223372036854775807) (H:Hp): ∀ (n i:Nat) (e:Env),i+n=xs.length→e.get 0= .d (Bf xs)→e.get 3= .d (.int .i64 i)→
  ∃e',Bg (Bq (ev R) R.glob n0 Bg Bc7) [0,3] ⟨e,H⟩=some ((match Fz (Km xs) n i with|some _=> .ret|none=> .exit 0),⟨e',H⟩)∧
   (∀j,Fz (Km xs) n i=some j→e'.get 2= .d (.bool false))∧(Fz (Km xs) n i=none→e'.get 0= .d (Bf xs))
 |0,i,e,hn,h0,h3=>by
  have c: ¬ (i:Int)< (xs.length:Int):=by omega
  have c': ¬i<xs.length:=by omega
  rw[Co]
  refine⟨?_, ?_, ?_, ?_⟩
  rotate_left
  ·simp[Cu,-List.getD_eq_getElem?_getD,-List.map_map,Bc7,h0,h3,Bf,c,c',Fz]
   rfl
  ·intro j hj;simp[Fz] at hj
  ·intro _
   try refine⟨?_, ?_⟩
   all_goals (first|trivial|simp[Cu,-List.getD_eq_getElem?_getD,-List.map_map,h0,h3,Bf])
 |n+1,i,e,hn,h0,h3=>by
  have c: (i:Int)< (xs.length:Int):=by omega
  have c':i<xs.length:=by omega
  have g:=Dv xs i c'
  have w1:IntKind.i64.wrap ((i:Int)+1)=((i+1:Nat):Int):=by rw[IntWalk.i64_in _ (by omega)];rfl
  have ih:=B1k n0 xs hx H n (i+1)
  rw[Co]
  generalize Bg (Bq (ev R) R.glob n0 Bg Bc7) [0,3]=F at ih⊢
  by_cases hb:40< (xs.getD i []).length
  ·have hb': (40:Int)< ((xs.getD i []).length:Int):=by omega
   refine⟨?_, ?_, ?_, ?_⟩
   rotate_left
   ·simp[Cu,-List.getD_eq_getElem?_getD,-List.map_map,Bc7,h0,h3,Bf,c,c',g,hb,hb',Fz,Km]
    rfl
   ·intro j hj
    simp[Fz,Km,hb,-List.getD_eq_getElem?_getD] at hj
    try subst hj
    simp[Cu,-List.getD_eq_getElem?_getD,-List.map_map]
   ·intro hj;simp[Fz,Km,hb,-List.getD_eq_getElem?_getD] at hj
  ·have hb': ¬ (40:Int)< ((xs.getD i []).length:Int):=by omega
   have hs:Fz (Km xs) (n+1) i=Fz (Km xs) n (i+1):=by simp[Fz,Km,hb,-List.getD_eq_getElem?_getD]
   rw[hs]
   simp[Cu,-List.getD_eq_getElem?_getD,-List.map_map,Bc7,h0,h3,Bf,c,c',g,hb,hb',w1]
   refine ih _ (by omega) ?_ ?_<;>rfl
theorem B1r (n0:Nat) (xs:List Bp) (hx:xs.length≤9223372036854775807) (m:Int) (H:Hp): ∀ (n i:Nat) (e:Env),i+n=xs.length→e.get 0= .d (Bf xs)→e.get 1= .d (.int .i64 m)→e.get 7= .d (Bf xs)→e.get 8= .d (.int .i64 xs.length)→e.get 9= .d (.int .i64 i)→
  ∃e',Bg (Bq (ev R) R.glob n0 Bg Bdb) [0,1,7,8,9] ⟨e,H⟩=some ((match Fz (Km xs) n i with|some _=> .ret|none=> .exit 0),⟨e',H⟩)∧
   (∀j,Fz (Km xs) n i=some j→e'.get 4= .d (.bool false))∧(Fz (Km xs) n i=none→e'.get 0= .d (Bf xs)∧e'.get 1= .d (.int .i64 m))
 |0,i,e,hn,h0,h1,h7,h8,h9=>by
  have c: ¬ (i:Int)< (xs.length:Int):=by omega
  have c': ¬i<xs.length:=by omega
  rw[Co]
  refine⟨?_, ?_, ?_, ?_⟩
  rotate_left
  ·simp[Cu,-List.getD_eq_getElem?_getD,-List.map_map,Bdb,h0,h1,h7,h8,h9,Bf,c,c',Fz]
   rfl
  ·intro j hj;simp[Fz] at hj
  ·intro _
   try refine⟨?_, ?_⟩
   all_goals (first|trivial|simp[Cu,-List.getD_eq_getElem?_getD,-List.map_map,h0,h1,h7,h8,h9,Bf])
 |n+1,i,e,hn,h0,h1,h7,h8,h9=>by
  have c: (i:Int)< (xs.length:Int):=by omega
  have c':i<xs.length:=by omega
  have g:=Dv xs i c'
  have w1:IntKind.i64.wrap ((i:Int)+1)=((i+1:Nat):Int):=by rw[IntWalk.i64_in _ (by omega)];rfl
  have ih:=B1r n0 xs hx m H n (i+1)
  rw[Co]
  generalize Bg (Bq (ev R) R.glob n0 Bg Bdb) [0,1,7,8,9]=F at ih⊢
  by_cases hb:40< (xs.getD i []).length
  ·have hb': (40:Int)< ((xs.getD i []).length:Int):=by omega
   refine⟨?_, ?_, ?_, ?_⟩
   rotate_left
   ·simp[Cu,-List.getD_eq_getElem?_getD,-List.map_map,Bdb,h0,h1,h7,h8,h9,Bf,c,c',g,hb,hb',Fz,Km]
    rfl
   ·intro j hj
    simp[Fz,Km,hb,-List.getD_eq_getElem?_getD] at hj
    try subst hj
    simp[Cu,-List.getD_eq_getElem?_getD,-List.map_map]
   ·intro hj;simp[Fz,Km,hb,-List.getD_eq_getElem?_getD] at hj
  ·have hb': ¬ (40:Int)< ((xs.getD i []).length:Int):=by omega
   have hs:Fz (Km xs) (n+1) i=Fz (Km xs) n (i+1):=by simp[Fz,Km,hb,-List.getD_eq_getElem?_getD]
   rw[hs]
   simp[Cu,-List.getD_eq_getElem?_getD,-List.map_map,Bdb,h0,h1,h7,h8,h9,Bf,c,c',g,hb,hb',w1]
   refine ih _ (by omega) ?_ ?_ ?_ ?_ ?_<;>rfl
theorem Bej (H:Hp) (xs:List Bp) (hx:xs.length≤9223372036854775807):ev R 56 [.d (Bf xs)] H=some (.d (.bool (Cq xs)),H):=by
 refine Bh (fn:=f56) rfl rfl ?_
 obtain⟨e',he,h1,h2⟩:=B1k (Bc H) xs hx H xs.length 0 [(0, .d (Bf xs)),(3, .d (.int .i64 0))] (by omega) rfl rfl
 cases hr:Fz (Km xs) xs.length 0 with
 |some j=>
  simp only[hr] at he
  simp[Cu,-List.getD_eq_getElem?_getD,-List.map_map,f56,he,h1 j hr,Cq,hr]
 |none=>
  simp only[hr] at he
  have h3:=h2 hr
  simp[Cu,-List.getD_eq_getElem?_getD,-List.map_map,f56,he,h3,Cq,hr,Bf]
  omega
theorem B5n (H:Hp) (xs:List Bp) (hx:xs.length≤9223372036854775807):ev R 86 [.d (Bf xs), .d (.int .i64 16)] H=some (.d (.bool (Cq xs)),H):=by
 refine Bh (fn:=f86) rfl rfl ?_
 obtain⟨e',he,h1,h2⟩:=B1r (Bc H) xs hx 16 H xs.length 0 [(0, .d (Bf xs)),(1, .d (.int .i64 16)),(7, .d (Bf xs)),(8, .d (.int .i64 xs.length)),(9, .d (.int .i64 0))] (by omega) rfl rfl rfl rfl rfl
 cases hr:Fz (Km xs) xs.length 0 with
 |some j=>
  simp only[hr] at he
  simp[Cu,-List.getD_eq_getElem?_getD,-List.map_map,f86,he,h1 j hr,Cq,hr]
 |none=>
  simp only[hr] at he
  obtain⟨h3,h4⟩:=h2 hr
  simp[Cu,-List.getD_eq_getElem?_getD,-List.map_map,f86,he,h3,h4,Cq,hr,Bf]
  omega
theorem Bf6 (H:Hp) (xs:List Bp) (hx:xs.length≤9223372036854775807):ev R 65 [.d (Bf xs)] H=some (.d (.bool (Cq xs)),H):=by
 refine Bh (fn:=f65) rfl rfl ?_
 have p63:Be (ev R) 86 [.d (Bf xs), .d (.int .i64 16)]=some (.d (.bool (Cq xs))):=Bb fun H=>B5n H xs hx
 simp[Cu,-List.getD_eq_getElem?_getD,-List.map_map,f65,p63]
def P5 (xs ys:List Bp) (i:Nat):Bool:=decide (¬xs.getD i []=ys.getD i [])
def Bsx (xs:List Bp):Nat→Nat→Int→Int
 |0,_,l=>l
 |n+1,i,l=>if l - (xs.getD i []).length<0 then -1 else Bsx xs n (i+1) (l - (xs.getD i []).length)
def left (xs:List Bp):Int:=if 1048576 - (xs.length:Int)<0 then -1 else(if Bsx xs xs.length 0 (1048576 - xs.length)<0 then -1 else Bsx xs xs.length 0 (1048576 - xs.length))
namespace fnExactListAt
end fnExactListAt
theorem B02 (H:Hp) (a b c:Int):ev R 32 [.d (.int .i64 a), .d (.int .i64 b), .d (.int .i64 c)] H=some (.d (.bool (decide (a≥b) &&decide (a≤c))),H):=by
 refine Bh (fn:=f32) rfl rfl ?_
 by_cases h1:a≥b<;>by_cases h2:a≤c<;>
 simp[evE,-List.getD_eq_getElem?_getD,-List.map_map,f32,h1,h2]
theorem B5d (H:Hp) (a b c:Int):ev R 40 [.d (.int .i64 a), .d (.int .i64 b), .d (.int .i64 c)] H=some (.d (.bool (decide (a≥b) &&decide (a≤c))),H):=by
 refine Bh (fn:=f40) rfl rfl ?_
 by_cases h1:a≥b<;>by_cases h2:a≤c<;>
 simp[evE,-List.getD_eq_getElem?_getD,-List.map_map,f40,h1,h2]
theorem Pg (a b c:Int):Be (ev R) 32 [.d (.int .i64 a), .d (.int .i64 b), .d (.int .i64 c)]=some (.d (.bool (decide (a≥b) &&decide (a≤c)))):=Bb fun H=>B02 H a b c
theorem Bcs (a b c:Int):Be (ev R) 40 [.d (.int .i64 a), .d (.int .i64 b), .d (.int .i64 c)]=some (.d (.bool (decide (a≥b) &&decide (a≤c)))):=Bb fun H=>B5d H a b c
def bit (s:List UInt8) (i:Int):Int:=if i / 8≥s.length then 0 else((s.getD (i / 8).toNat 0).toNat:Int) / (2 ^ (7 - i % 8).toNat) % 2
def enZ:V:= .agg [.d (.str []), .d (.int .i64 0), .d (.int .i64 0), .d (.str []), .nils 1, .nils 2, .nils 2]
theorem B03 (H:Hp) (r:Nat) (xs:List V) (i:Nat) (hr:Ce H r=some (.row 0 7 xs)) (hd: ∀x∈xs,∃d,x= .d d) (hi:i<xs.length) (hx:xs.length≤1000000):
  ev R 44 [.slc r 0 0 xs.length, .d (.int .i64 i), .d (.int .i64 (i+1))] H=some (.slc r 0 0 (xs.length - 1),Bv H r (.row 0 7 (xs.take i++(xs.drop (i+1)++[enZ])))):=by
 have h1: ¬ (i:Int)=(i:Int)+1:=by omega
 have c1: (0:Int)≤(i:Int)+1:=by omega
 have c2: (i:Int)+1≤(xs.length:Int):=by omega
 have c3: (i:Int)≤(xs.length:Int):=by omega
 have c4:i≤xs.length:=by omega
 have c5:i+1≤xs.length:=by omega
 have c6: (i:Int)≤(i:Int)+1:=by omega
 have c7: ¬i=xs.length:=by omega
 have c8:xs.length - 1≤xs.length:=by omega
 have hm:i+(xs.length - (i+1))=xs.length - 1:=by omega
 have hs: ∀o,Ce (Bv H r o) r=some o:=fun o=>Cw _ (Dy hr)
 have hok: ∀n0,(xs.drop (i+1)).all (Rf n0 r)=true:=fun n0=>List.all_eq_true.2 fun x hx=>by
  obtain⟨d,rfl⟩:=hd x (List.mem_of_mem_drop hx)
  rfl
 have c9: ((xs.length - 1:Nat):Int)≤(xs.length:Int):=by omega
 have d1:xs.length - (xs.length - 1)=1:=by omega
 have d2: (xs.length:Int)≤(i:Int)+(((xs.length - (i+1):Nat):Int)+1):=by omega
 have d3:xs.length - 1+1≤i+(xs.length - (i+1)+1):=by omega
 have d4:xs.length≤i+(xs.length - (i+1)+1):=by omega
 have d5:xs.length≤xs.length - 1+1:=by omega
 have hrl:=Dy hr
 have fz: ∀o,Y0 (Bc H) (Bv H r o) (.slc r 0 0 (xs.length - 1))=some (.slc r 0 0 (xs.length - 1)):=fun o=>by simp[Y0,hrl]
 have htk: ∀o,Dl (Bv H r o) (Bc H)=Bv H r o:=fun o=>by
  have:=Gu (Bv H r o)
  rwa[Br] at this
 have l1:List.take (xs.length - 1) (List.take i xs++(List.drop (i+1) xs++List.drop (xs.length - 1) xs))=List.take i xs++List.drop (i+1) xs:=by
  rw[←List.append_assoc,List.take_append_of_le_length (by simp;omega),List.take_of_length_le (by simp;omega)]
 have l2:List.drop (xs.length - 1+1) (List.take i xs++(List.drop (i+1) xs++List.drop (xs.length - 1) xs))=[]:=List.drop_of_length_le (by simp;omega)
 refine Bh (fn:=f44) rfl rfl ?_
 simp(maxSteps:=1000000) [Cm,-List.getD_eq_getElem?_getD,-List.map_map,f44,hr,h1,hi,Bdj,eq_true c1,eq_true c2,eq_true c3,eq_true c4,eq_true c5,eq_true c6,eq_false c7,eq_true c8,eq_true c9,hs,hm,hok,Lg,d1,eq_true d2,eq_true d3,eq_true d4,eq_true d5,fz,htk,l1,l2,enZ]
def Kj:Bp→Bp→Bool
 | [],s=>decide (s=[])
 |c::p,[]=>if c=42 then Kj p [] else false
 |c::p,x::s=>if c=42 then Kj p (x::s) ||Kj (c::p) s else(decide (c=63) ||decide (c=x)) &&Kj p s
termination_by p s=>p.length+s.length
theorem Bhe: ∀ (n:Nat) (p s:Bp),p.length+s.length≤n→p.length≤1000000→s.length≤1000000→Be (ev R) 30 [.d (.str p), .d (.str s)]=some (.d (.bool (Kj p s)))
 |n,[],s,h,hp,hs=>Bb fun H=>by
  refine Bh (fn:=f30) rfl rfl ?_
  cases s with
  |nil=>simp(maxSteps:=1000000) [Cm,-List.getD_eq_getElem?_getD,-List.map_map,f30,Kj]
  |cons x s=>simp(maxSteps:=1000000) [Cm,-List.getD_eq_getElem?_getD,-List.map_map,f30,Kj]
 |0,c::p,s,h,hp,hs=>by simp at h
 |n+1,c::p,[],h,hp,hs=>Bb fun H=>by
  refine Bh (fn:=f30) rfl rfl ?_
  have l0: (0:Int)< (p.length:Int)+1:=by omega
  have l1: (1:Int)≤(p.length:Int)+1:=by omega
  have l2: (0:Int)≤(p.length:Int)+1:=by omega
  have tp:p.take p.length=p:=List.take_length
  by_cases a:c=42
  ·subst a
   have ih:=Bhe n p [] (by simp at h⊢;omega) (by simp at hp;omega) (by simp)
   rw[Kj,if_pos rfl]
   cases hm:Kj p [] with
   |false=>rw[hm] at ih;simp(maxSteps:=1000000) [Cm,-List.getD_eq_getElem?_getD,-List.map_map,f30,ih,l0,l1,l2,tp]
   |true=>rw[hm] at ih;simp(maxSteps:=1000000) [Cm,-List.getD_eq_getElem?_getD,-List.map_map,f30,ih,l0,l1,l2,tp]
  ·have a': ¬c.toNat=42:=fun h=>a (UInt8.toNat_inj.1 h)
   have a'': ¬ (c.toNat:Int)=42:=fun h=>a' (by omega)
   rw[Kj,if_neg a]
   simp(maxSteps:=1000000) [Cm,-List.getD_eq_getElem?_getD,-List.map_map,f30,l0,l1,l2,tp,eq_false a,eq_false a',eq_false a'']
 |n+1,c::p,x::s,h,hp,hs=>Bb fun H=>by
  refine Bh (fn:=f30) rfl rfl ?_
  have l0: (0:Int)< (p.length:Int)+1:=by omega
  have l1: (1:Int)≤(p.length:Int)+1:=by omega
  have l2: (0:Int)≤(p.length:Int)+1:=by omega
  have tp:p.take p.length=p:=List.take_length
  have m0: (0:Int)< (s.length:Int)+1:=by omega
  have m1: (1:Int)≤(s.length:Int)+1:=by omega
  have m2: (0:Int)≤(s.length:Int)+1:=by omega
  have ts:s.take s.length=s:=List.take_length
  simp only[List.length_cons] at h hp hs
  by_cases a:c=42
  ·subst a
   have ih:=Bhe n p (x::s) (by simp only[List.length_cons];omega) (by omega) (by simp only[List.length_cons];omega)
   have ih2:=Bhe n (42::p) s (by simp only[List.length_cons];omega) (by simp only[List.length_cons];omega) (by omega)
   rw[Kj,if_pos rfl]
   cases hm:Kj p (x::s) with
   |false=>rw[hm] at ih;simp(maxSteps:=1000000) [Cm,-List.getD_eq_getElem?_getD,-List.map_map,f30,ih,ih2,l0,l1,l2,tp,m0,m1,m2,ts]
   |true=>rw[hm] at ih;simp(maxSteps:=1000000) [Cm,-List.getD_eq_getElem?_getD,-List.map_map,f30,ih,l0,l1,l2,tp,m0,m1,m2,ts]
  ·have a': ¬c.toNat=42:=fun h=>a (UInt8.toNat_inj.1 h)
   have a'': ¬ (c.toNat:Int)=42:=fun h=>a' (by omega)
   have ih:=Bhe n p s (by omega) (by omega) (by omega)
   rw[Kj,if_neg a]
   by_cases b:c=63
   ·subst b
    simp(maxSteps:=1000000) [Cm,-List.getD_eq_getElem?_getD,-List.map_map,f30,ih,l0,l1,l2,tp,m0,m1,m2,ts,eq_false a,eq_false a',eq_false a'']
   ·have b': ¬c.toNat=63:=fun h=>b (UInt8.toNat_inj.1 h)
    have b'': ¬ (c.toNat:Int)=63:=fun h=>b' (by omega)
    by_cases d:c=x
    ·subst d
     simp(maxSteps:=1000000) [Cm,-List.getD_eq_getElem?_getD,-List.map_map,f30,ih,l0,l1,l2,tp,m0,m1,m2,ts,eq_false a,eq_false a',eq_false a'',eq_false b,eq_false b',eq_false b'']
    ·have d': ¬c.toNat=x.toNat:=fun h=>d (UInt8.toNat_inj.1 h)
     have d'': ¬ (c.toNat:Int)=(x.toNat:Int):=fun h=>d' (by omega)
     simp(maxSteps:=1000000) [Cm,-List.getD_eq_getElem?_getD,-List.map_map,f30,l0,l1,l2,tp,m0,m1,m2,ts,eq_false a,eq_false a',eq_false a'',eq_false b,eq_false b',eq_false b'',eq_false d,eq_false d',eq_false d'']
theorem B7z (p s:Bp) (hp:p.length≤1000000) (hs:s.length≤1000000):Be (ev R) 30 [.d (.str p), .d (.str s)]=some (.d (.bool (Kj p s))):=Bhe _ p s (Nat.le_refl _) hp hs
end Go.Proofs.YtjdmiodinhlchaaGreat.Code
