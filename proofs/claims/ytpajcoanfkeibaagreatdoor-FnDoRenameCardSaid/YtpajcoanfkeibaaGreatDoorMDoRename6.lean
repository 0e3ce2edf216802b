/- Lemmas (several texts in one). -/
import Derived.Test.YtpajcoanfkeibaaGreatDoorMDoRename5
set_option maxRecDepth 100000
set_option linter.unusedSimpArgs false
set_option linter.unusedVariables false
set_option linter.defProp false
namespace Go.Proofs.YtpajcoanfkeibaaGreatDoor.Code
open Go Go.Ev Go.Proofs
abbrev Sc:=Bq×Int
abbrev Pr:=Bq×Bq
def Kk (x:Sc):D:= .agg [.str x.1, .int .i64 x.2]
def Kz (x:Pr):D:= .agg [.str x.1, .str x.2]
abbrev De (xs:List Sc):D:= .vals 2 (xs.map Kk)
abbrev Ff (xs:List Pr):D:= .vals 2 (xs.map Kz)
structure En where
 key:Bq
 till:Int
 kind:Int
 text:Bq
 list:List Bq
 scores:List Sc
 fields:List Pr
def Fy (e:En):D:= .agg [.str e.key, .int .i64 e.till, .int .i64 e.kind, .str e.text,Bf e.list,De e.scores,Ff e.fields]
def Bqn (n:Int):Prop:= -9223372036854775808≤n∧n≤9223372036854775807
structure EnFit (e:En):Prop where
 key:e.key.length≤9223372036854775807
 text:e.text.length≤9223372036854775807
 list:e.list.length≤9223372036854775807
 lists: ∀i,(e.list.getD i []).length≤9223372036854775807
 scores:e.scores.length≤9223372036854775807
 scoress: ∀i,((e.scores.getD i ([],0)).1).length≤9223372036854775807
 fields:e.fields.length≤9223372036854775807
 fieldss: ∀i,((e.fields.getD i ([],[])).1).length≤9223372036854775807∧((e.fields.getD i ([],[])).2).length≤9223372036854775807
 till:Bqn e.till
 kind:Bqn e.kind
structure Ba where
 now:Int
 ents:List En
abbrev Lf (es:List En):D:= .vals 7 (es.map Fy)
def Df (b:Ba):D:= .agg [.int .i64 b.now,Lf b.ents]
inductive Re where
 |mk (kind num:Int) (text:Bq) (texts:List Bq) (Bbt:List Re)
def Re.kind:Re→Int| .mk k _ _ _ _=>k
def Re.num:Re→Int| .mk _ n _ _ _=>n
def Re.text:Re→Bq| .mk _ _ t _ _=>t
def Re.texts:Re→List Bq| .mk _ _ _ l _=>l
def Re.many:Re→List Re| .mk _ _ _ _ m=>m
def Te:Re→D
 | .mk k n t l m=> .agg [.int .i64 k, .int .i64 n, .str t,Bf l, .vals 5 (m.attach.map fun x=>Te x.1)]
termination_by r=>SizeOf.sizeOf r
decreasing_by
 have:=List.sizeOf_lt_of_mem x.2
 simp only[Re.mk.sizeOf_spec]
 omega
theorem Bfw (k n:Int) (t:Bq) (l:List Bq) (m:List Re):Te (.mk k n t l m)= .agg [.int .i64 k, .int .i64 n, .str t,Bf l, .vals 5 (m.map Te)]:=by
 rw[Te.eq_1]
 simp
theorem Bph (x:Sc): (Kk x).cells=[.str x.1, .int .i64 x.2]:=rfl
theorem Ble (x:Sc): (V.d (Kk x)).cells=[.d (.str x.1), .d (.int .i64 x.2)]:=rfl
theorem Bwx (x:Sc): (V.d (Kk x)).isAgg=true:=rfl
theorem Bs4 (a:Bq) (n:Int):D.agg [.str a, .int .i64 n]=Kk (a,n):=rfl
theorem Bo4 (x:Pr): (Kz x).cells=[.str x.1, .str x.2]:=rfl
theorem Bky (x:Pr): (V.d (Kz x)).cells=[.d (.str x.1), .d (.str x.2)]:=rfl
theorem Bwq (x:Pr): (V.d (Kz x)).isAgg=true:=rfl
theorem Bsa (a b:Bq):D.agg [.str a, .str b]=Kz (a,b):=rfl
theorem Bn9 (e:En): (Fy e).cells=[.str e.key, .int .i64 e.till, .int .i64 e.kind, .str e.text,Bf e.list,De e.scores,Ff e.fields]:=rfl
theorem Bjw (e:En): (V.d (Fy e)).cells=[.d (.str e.key), .d (.int .i64 e.till), .d (.int .i64 e.kind), .d (.str e.text), .d (Bf e.list), .d (De e.scores), .d (Ff e.fields)]:=rfl
theorem Bv3 (e:En): (V.d (Fy e)).isAgg=true:=rfl
theorem Brh (k:Bq) (t d:Int) (x:Bq) (l:List Bq) (s:List Sc) (f:List Pr):D.agg [.str k, .int .i64 t, .int .i64 d, .str x, .vals 1 (l.map D.str),De s,Ff f]=Fy ⟨k,t,d,x,l,s,f⟩:=rfl
theorem Bnt (b:Ba): (Df b).cells=[.int .i64 b.now,Lf b.ents]:=rfl
theorem Bjg (b:Ba): (V.d (Df b)).cells=[.d (.int .i64 b.now), .d (Lf b.ents)]:=rfl
theorem Bvd (b:Ba): (V.d (Df b)).isAgg=true:=rfl
theorem Bq1 (n:Int) (es:List En):D.agg [.int .i64 n,Lf es]=Df ⟨n,es⟩:=rfl
instance:Inhabited En:=⟨⟨[],0,0,[],[],[],[]⟩⟩
theorem Ja (es:List En) (i:Nat) (hi:i<es.length): (es.map Fy).getD i .nilp=Fy (es.getD i default):=by
 simp[List.getD_eq_getElem?_getD,hi]
theorem Gr {α:Type} {xs:List α} {i:Nat} {d:α} (hi:i<xs.length):xs.getD i d∈xs:=by
 rw[List.getD_eq_getElem?_getD,List.getElem?_eq_getElem hi]
 exact List.getElem_mem hi
structure BaFit (b:Ba):Prop where
 now:Bqn b.now
 len:b.ents.length≤9223372036854775807
 each: ∀e∈b.ents,EnFit e
theorem Brp (n e:Nat) (H:Hp):Ws n H (.nils e)=some (.d (.vals e [])):=rfl
theorem Bk3 (r:Re):Te r= .agg [.int .i64 r.kind, .int .i64 r.num, .str r.text,Bf r.texts, .vals 5 (r.many.map Te)]:=by
 cases r;exact Bfw ..
theorem Y2 (r:Re): (Te r).cells=[.int .i64 r.kind, .int .i64 r.num, .str r.text,Bf r.texts, .vals 5 (r.many.map Te)]:=by rw[Bk3];rfl
theorem Wj (r:Re): (V.d (Te r)).cells=[.d (.int .i64 r.kind), .d (.int .i64 r.num), .d (.str r.text), .d (Bf r.texts), .d (.vals 5 (r.many.map Te))]:=by rw[Bk3];rfl
theorem Bfv (r:Re): (V.d (Te r)).isAgg=true:=by rw[Bk3];rfl
theorem Bso (k n:Int) (t:Bq) (l:List Bq) (m:List Re):D.agg [.int .i64 k, .int .i64 n, .str t, .vals 1 (l.map D.str), .vals 5 (m.map Te)]=Te (.mk k n t l m):=(Bfw ..).symm
theorem Bpc (k n:Int) (t:Bq):D.agg [.int .i64 k, .int .i64 n, .str t, .vals 1 [], .vals 5 []]=Te (.mk k n t [] []):=(Bfw k n t [] []).symm
theorem Bpd (k n:Int) (t:Bq) (l:List Bq):D.agg [.int .i64 k, .int .i64 n, .str t, .vals 1 (l.map D.str), .vals 5 []]=Te (.mk k n t l []):=(Bfw k n t l []).symm
theorem Bz5 (r:Re):Re.mk r.kind r.num r.text r.texts r.many=r:=by cases r;rfl
theorem Boa (k:Bq) (t d:Int) (x:Bq):D.agg [.str k, .int .i64 t, .int .i64 d, .str x, .vals 1 [], .vals 2 [], .vals 2 []]=Fy ⟨k,t,d,x,[],[],[]⟩:=rfl
theorem Fx (n:Int):D.agg [.int .i64 n, .vals 7 []]=Df ⟨n,[]⟩:=rfl
theorem gd0 {α:Type} (x:α) (r:List α) (d:α): (x::r).getD 0 d=x:=rfl
theorem gd1 {α:Type} (x y:α) (r:List α) (d:α): (x::y::r).getD 1 d=y:=rfl
theorem gd2 {α:Type} (x y z:α) (r:List α) (d:α): (x::y::z::r).getD 2 d=z:=rfl
theorem gd3 {α:Type} (x y z u:α) (r:List α) (d:α): (x::y::z::u::r).getD 3 d=u:=rfl
theorem gd4 {α:Type} (x y z u v:α) (r:List α) (d:α): (x::y::z::u::v::r).getD 4 d=v:=rfl
theorem gd5 {α:Type} (x y z u v w:α) (r:List α) (d:α): (x::y::z::u::v::w::r).getD 5 d=w:=rfl
theorem B05 {α:Type} (x:α) (l:List α): [x]++l=x::l:=rfl
theorem B06 {α:Type} (l:List α): []++l=l:=rfl
theorem B07 {α:Type} (x:α) (l m:List α):x::l++m=x:: (l++m):=rfl
theorem B52 {α:Type} {l:List α} {i:Nat} (h:l.length≤i):List.take i l=l:=List.take_of_length_le h
theorem B53 {α β:Type} (f:α→β) (x:α) (l:List α):List.map f (x::l)=f x::List.map f l:=rfl
theorem Bzq (G:Gx) (env:Ev.Env) (H:Hp):Ev.Ul G env H []=some ([],H):=rfl
theorem Bzp (G:Gx) (env:Ev.Env) (H:Hp) (k:Bool) (x:AOpd) (r:List (Bool×AOpd)):Ev.Ul G env H ((k,x)::r)=(match Zh H k (C9 G env x) with
  |some (v,H)=> (match Ev.Ul G env H r with
   |some (vs,H)=>some (v::vs,H)
   |none=>none)
  |none=>none):=rfl
theorem B54 {α β:Type} (f:α→β):List.map f []=[]:=rfl
def Bwy:=And.intro @Uo.eq_1 (And.intro @Uo.eq_2 (And.intro @Uo.eq_3 (And.intro @Uo.eq_def (And.intro @Bln.eq_1 (And.intro @Bln.eq_2 (And.intro @Bip.eq_1 (And.intro @Bip.eq_2 (And.intro @Bip.eq_3 (And.intro @Bip.eq_def (And.intro @Cs.eq_1 (@Bp.eq_1)))))))))))
def Bwz:=And.intro @Bp.eq_2 (And.intro @Bp.eq_3 (And.intro @Bp.eq_4 (And.intro @Bp.eq_5 (And.intro @Bp.eq_6 (And.intro @Bp.eq_7 (And.intro @Bp.eq_8 (And.intro @Bp.eq_9 (And.intro @Bp.eq_10 (And.intro @Bp.eq_11 (And.intro @Bp.eq_12 (@Pw.eq_1)))))))))))
def Bw0:=And.intro @Pw.eq_2 (And.intro @Fw.eq_1 (And.intro @evX.eq_1 (And.intro @evX.eq_2 (And.intro @evX.eq_3 (And.intro @Go.Ev.Bly.eq_1 (And.intro @Cg.eq_1 (And.intro @Cg.eq_2 (And.intro @Cg.eq_3 (And.intro @Cg.eq_4 (And.intro @Cg.eq_5 (@Cg.eq_6)))))))))))
def Bw1:=And.intro @Cg.eq_7 (And.intro @Cg.eq_8 (And.intro @Cg.eq_9 (And.intro @Cg.eq_10 (And.intro @Cg.eq_11 (And.intro @Cg.eq_12 (And.intro @Cg.eq_13 (And.intro @Cg.eq_14 (And.intro @Cg.eq_15 (And.intro @Cg.eq_16 (And.intro @Cg.eq_17 (@Cg.eq_18)))))))))))
def Bw2:=And.intro @Cg.eq_19 (And.intro @Cg.eq_20 (And.intro @Cg.eq_21 (And.intro @Cg.eq_22 (And.intro @Cg.eq_23 (And.intro @Cg.eq_24 (And.intro @Cg.eq_25 (And.intro @Cg.eq_26 (And.intro @Cg.eq_27 (And.intro @Cg.eq_28 (And.intro @Cg.eq_29 (@Cg.eq_30)))))))))))
def Bw3:=And.intro @Cg.eq_31 (And.intro @Cg.eq_32 (And.intro @Cg.eq_33 (And.intro @Cg.eq_34 (And.intro @Cg.eq_35 (And.intro @Cg.eq_36 (And.intro @Cg.eq_37 (And.intro @Cg.eq_38 (And.intro @Cg.eq_39 (And.intro @Cg.eq_40 (And.intro @Cg.eq_41 (@Cg.eq_42)))))))))))
def Bw4:=And.intro @Cg.eq_43 (And.intro @Cg.eq_def (And.intro @C9.eq_1 (And.intro @C9.eq_2 (And.intro @C9.eq_3 (And.intro @C9.eq_4 (And.intro @C9.eq_5 (And.intro @C9.eq_6 (And.intro @C9.eq_def (And.intro @Go.Ev.Env.get.eq_1 (And.intro @Go.Ev.Env.get.eq_2 (@Go.Ev.Env.put.eq_1)))))))))))
def Bw5:=And.intro @Go.Ev.Env.put.eq_2 (And.intro @Go.Ev.Env.keep.eq_1 (And.intro @Go.Ev.Env.keep.eq_2 (And.intro @Qs.eq_1 (And.intro @Qs.eq_2 (And.intro @V.ok.eq_1 (And.intro @V.ok.eq_2 (And.intro @V.ok.eq_def (And.intro @V.sto.eq_1 (And.intro @V.sto.eq_2 (And.intro @V.sto.eq_3 (@V.sto.eq_4)))))))))))
def Bw6:=And.intro @V.sto.eq_def (And.intro @Zz.eq_1 (And.intro @Zz.eq_2 (And.intro @Zz.eq_3 (And.intro @Zz.eq_4 (And.intro @Zz.eq_5 (And.intro @Zz.eq_6 (And.intro @Zz.eq_7 (And.intro @Zz.eq_8 (And.intro @Zz.eq_def (And.intro @Gy.eq_1 (@Gy.eq_2)))))))))))
def Bw7:=And.intro @Gy.eq_3 (And.intro @Gy.eq_4 (And.intro @Gy.eq_5 (And.intro @Gy.eq_6 (And.intro @Gy.eq_7 (And.intro @Gy.eq_8 (And.intro @Gy.eq_9 (And.intro @Gy.eq_10 (And.intro @Gy.eq_11 (And.intro @Gy.eq_12 (And.intro @Gy.eq_def (@M6.eq_1)))))))))))
def Bnc:=And.intro @M6.eq_2 (And.intro @M6.eq_3 (And.intro @M6.eq_4 (And.intro @M6.eq_5 (And.intro @M6.eq_6 (And.intro @M6.eq_7 (And.intro @M6.eq_8 (And.intro @M6.eq_def (And.intro @Zt.eq_1 (And.intro @Zt.eq_2 (And.intro @Zt.eq_3 (@Zt.eq_def)))))))))))
def Bnd:=And.intro @unD.eq_1 (And.intro @unD.eq_2 (And.intro @unD.eq_3 (And.intro @unD.eq_def (And.intro @Ba0.eq_1 (And.intro @Ba0.eq_2 (And.intro @Ba0.eq_3 (And.intro @Ba0.eq_4 (And.intro @Ba0.eq_5 (And.intro @Ba0.eq_6 (And.intro @Ba0.eq_def (@asI.eq_1)))))))))))
def Bne:=And.intro @asI.eq_2 (And.intro @asI.eq_def (And.intro @Bg8.eq_1 (And.intro @Tf.eq_1 (And.intro @Tf.eq_2 (And.intro @Tf.eq_3 (And.intro @Tf.eq_def (And.intro @Gq.eq_1 (And.intro @Gq.eq_2 (And.intro @fzV.eq_1 (And.intro @fzV.eq_2 (@fzV.eq_def)))))))))))
def Bnf:=And.intro @fzA.eq_1 (And.intro @fzA.eq_2 (And.intro @fzA.eq_3 (And.intro @fzA.eq_def (And.intro @Bcu.eq_1 (And.intro @Bcu.eq_2 (And.intro @Bcu.eq_def (And.intro @R9.eq_1 (And.intro @R9.eq_2 (And.intro @R9.eq_3 (And.intro @R9.eq_def (@Kh.eq_1)))))))))))
def Bng:=And.intro @Kh.eq_2 (And.intro @Kh.eq_3 (And.intro @Kh.eq_4 (And.intro @Kh.eq_5 (And.intro @Kh.eq_def (And.intro @J7.eq_1 (And.intro @J7.eq_2 (And.intro @J7.eq_3 (And.intro @J7.eq_4 (And.intro @J7.eq_def (And.intro @Bzq (@Bzp)))))))))))
def Bnh:=And.intro @Zg.eq_1 (And.intro @Zg.eq_2 (And.intro @Zg.eq_3 (And.intro @Zg.eq_def (And.intro @Xg.eq_1 (And.intro @Xg.eq_2 (And.intro @Xg.eq_3 (And.intro @Xg.eq_4 (And.intro @Xg.eq_def (And.intro @Gt.eq_1 (And.intro @Gt.eq_2 (@Gt.eq_3)))))))))))
def Bni:=And.intro @Ni.eq_1 (And.intro @K8.eq_1 (And.intro @K8.eq_2 (And.intro @K8.eq_3 (And.intro @K8.eq_def (And.intro @Bve (And.intro @IntKind.bits.eq_1 (And.intro @IntKind.bits.eq_2 (And.intro @IntKind.bits.eq_3 (And.intro @IntKind.bits.eq_4 (And.intro @IntKind.bits.eq_5 (@IntKind.bits.eq_6)))))))))))
def Bnj:=And.intro @IntKind.bits.eq_7 (And.intro @IntKind.bits.eq_8 (And.intro @IntKind.bits.eq_def (And.intro @Zh.eq_1 (And.intro @Zh.eq_2 (And.intro @Zh.eq_def (And.intro @mV.eq_1 (And.intro @oP.eq_1 (And.intro @oG.eq_1 (And.intro @oN.eq_1 (And.intro @oL.eq_1 (@oF.eq_1)))))))))))
def s_0:=And.intro @V.cells.eq_1 (And.intro @V.cells.eq_2 (And.intro @V.cells.eq_3 (And.intro @V.cells.eq_def (And.intro @D.cells.eq_1 (And.intro @D.cells.eq_2 (And.intro @D.cells.eq_def (And.intro @V.isAgg.eq_1 (And.intro @V.isAgg.eq_2 (And.intro @V.isAgg.eq_3 (And.intro @V.isAgg.eq_def (@Ws.eq_1)))))))))))
def s_1:=And.intro @Ws.eq_2 (And.intro @Ws.eq_3 (And.intro @Ws.eq_4 (And.intro @Ws.eq_def (And.intro @Cx.eq_1 (@Bc.eq_1)))))
def B9a:=And.intro @V.cells.eq_1 (And.intro @V.cells.eq_2 (And.intro @V.cells.eq_3 (And.intro @V.cells.eq_def (And.intro @D.cells.eq_1 (And.intro @D.cells.eq_2 (And.intro @D.cells.eq_def (And.intro @V.isAgg.eq_1 (And.intro @V.isAgg.eq_2 (And.intro @V.isAgg.eq_3 (And.intro @V.isAgg.eq_def (@Jq)))))))))))
def B9b:=And.intro @Fa (And.intro @Dr (And.intro @Qx (And.intro @Cy (And.intro @Rt.eq_1 (And.intro @Ke.eq_1 (And.intro @Ke.eq_2 (And.intro @Ke.eq_3 (And.intro @Ke.eq_def (And.intro @Fz.eq_1 (And.intro @Fz.eq_2 (@Fz.eq_3)))))))))))
def B9c:=And.intro @Fz.eq_4 (And.intro @Fz.eq_5 (And.intro @Fz.eq_def (And.intro @Bro (@Bv9))))
def B8r:=And.intro @V.cells.eq_1 (And.intro @V.cells.eq_2 (And.intro @V.cells.eq_3 (And.intro @V.cells.eq_def (And.intro @D.cells.eq_1 (And.intro @D.cells.eq_2 (And.intro @D.cells.eq_def (And.intro @V.isAgg.eq_1 (And.intro @V.isAgg.eq_2 (And.intro @V.isAgg.eq_3 (And.intro @V.isAgg.eq_def (@Rt.eq_1)))))))))))
def B8s:=And.intro @Ke.eq_1 (And.intro @Ke.eq_2 (And.intro @Ke.eq_3 (And.intro @Ke.eq_def (And.intro @Fz.eq_1 (And.intro @Fz.eq_2 (And.intro @Fz.eq_3 (And.intro @Fz.eq_4 (And.intro @Fz.eq_5 (And.intro @Fz.eq_def (And.intro @Xl.eq_1 (@Xl.eq_2)))))))))))
def B8t:=And.intro @Xl.eq_3 (And.intro @Xl.eq_4 (And.intro @Xl.eq_5 (And.intro @Xl.eq_def (And.intro @Bro (And.intro @ap0 (And.intro @Ber (And.intro @L8 (And.intro @Beq (And.intro @Rc (And.intro @Bmd (@Yc)))))))))))
def B8u:=And.intro @Lh (And.intro @Wu (And.intro @Bjd (And.intro @Bmc (And.intro @Bqv (And.intro @Bmb (And.intro @Bep (And.intro @Bgb (And.intro @Bqu (And.intro @Bl8 (And.intro @Bl9 (@Bma)))))))))))
def B8v:=And.intro @Cw.eq_1 (And.intro @Dn.eq_1 (And.intro @Na.eq_1 (And.intro @Cf.eq_1 (And.intro @Cf.eq_2 (And.intro @Cf.eq_3 (And.intro @Bz.eq_1 (And.intro @Bz.eq_2 (And.intro @Bz.eq_3 (And.intro @Lt.eq_1 (And.intro @Lt.eq_2 (@Lt.eq_3)))))))))))
def B8w:=And.intro @Lt.eq_def (And.intro @Ry.eq_1 (And.intro @Ry.eq_2 (And.intro @Ry.eq_3 (And.intro @Ry.eq_4 (And.intro @Ry.eq_def (And.intro @Tu (And.intro @Baq (And.intro @Bqw (And.intro @Be6.eq_1 (And.intro @Be6.eq_2 (@B05)))))))))))
def B8x:=And.intro @B06 (@B07)
def B8y:=And.intro @Rt.eq_1 (And.intro @Ke.eq_1 (And.intro @Ke.eq_2 (And.intro @Ke.eq_3 (And.intro @Ke.eq_def (And.intro @Fz.eq_1 (And.intro @Fz.eq_2 (And.intro @Fz.eq_3 (And.intro @Fz.eq_4 (And.intro @Fz.eq_5 (And.intro @Fz.eq_def (@Xl.eq_1)))))))))))
def B8z:=And.intro @Xl.eq_2 (And.intro @Xl.eq_3 (And.intro @Xl.eq_4 (And.intro @Xl.eq_5 (And.intro @Xl.eq_def (And.intro @Bro (And.intro @ap0 (And.intro @L8 (And.intro @Beq (And.intro @Rc (And.intro @Bmd (@Yc)))))))))))
def B80:=And.intro @Lh (And.intro @Wu (And.intro @Bjd (And.intro @Bmc (And.intro @Bqv (And.intro @Bmb (And.intro @Bep (And.intro @Bgb (And.intro @Bqu (And.intro @Bl8 (And.intro @Bl9 (@Bma)))))))))))
def B81:=And.intro @Cw.eq_1 (And.intro @Dn.eq_1 (And.intro @Na.eq_1 (And.intro @Cf.eq_1 (And.intro @Cf.eq_2 (And.intro @Cf.eq_3 (And.intro @Bz.eq_1 (And.intro @Bz.eq_2 (And.intro @Bz.eq_3 (And.intro @Lt.eq_1 (And.intro @Lt.eq_2 (@Lt.eq_3)))))))))))
def B82:=And.intro @Lt.eq_def (And.intro @Ry.eq_1 (And.intro @Ry.eq_2 (And.intro @Ry.eq_3 (And.intro @Ry.eq_4 (And.intro @Ry.eq_def (And.intro @Tu (And.intro @Baq (And.intro @Bqw (And.intro @Be6.eq_1 (And.intro @Be6.eq_2 (@B05)))))))))))
def B83:=And.intro @B06 (And.intro @B07 (And.intro @Bl7 (And.intro @B0l (And.intro @Bxs (And.intro @B0d (And.intro @Bxk (And.intro @Bzh (And.intro @B0r (And.intro @B0j (And.intro @Bzk (@B0o)))))))))))
def B84:=And.intro @B0g (And.intro @Bzj (And.intro @Bxr (And.intro @Bxj (And.intro @Bvk (And.intro @Bxy (And.intro @Bxq (And.intro @Bvo (And.intro @Bxv (And.intro @Bxn (And.intro @Bvm (@Bxx)))))))))))
def B85:=And.intro @Bxp (And.intro @Bvn (And.intro @B0m (And.intro @B0e (And.intro @Bzi (And.intro @Btt (And.intro @Btr (And.intro @Bra (And.intro @Bts (And.intro @Btq (And.intro @Bq9 (@Bp1)))))))))))
def B86:=And.intro @Bp0 (And.intro @Bn1 (And.intro @Bxu (And.intro @Bxm (And.intro @Bvl (And.intro @B0q (And.intro @B0i (And.intro @B0p (And.intro @B0h (And.intro @B0n (And.intro @B0f (@Bxt)))))))))))
def B87:=And.intro @Bxl (And.intro @Bxw (And.intro @Bxo (And.intro @B0s (And.intro @B0k (And.intro @Bph (And.intro @Ble (And.intro @Bwx (And.intro @Bs4 (And.intro @Bo4 (And.intro @Bky (@Bwq)))))))))))
def B5h:=And.intro @Bsa (And.intro @Bn9 (And.intro @Bjw (And.intro @Bv3 (And.intro @Brh (And.intro @Bnt (And.intro @Bjg (And.intro @Bvd (And.intro @Bq1 (And.intro @Jq (And.intro @U7 (@Bl3.eq_1)))))))))))
def B5i:=And.intro @Bl3.eq_2 (And.intro @Bl3.eq_def (And.intro @Bvb.eq_1 (And.intro @Bvb.eq_2 (And.intro @Bvb.eq_def (And.intro @Bio (And.intro @Bpy (And.intro @Bte (And.intro @Be7 (And.intro @Bv8 (And.intro @Bhc (@Bbu)))))))))))
def B5j:=And.intro @B6j (@B52)
def B88:=And.intro @Qw.eq_1 (And.intro @Qw.eq_2 (And.intro @Bej.eq_1 (And.intro @Brp (And.intro @Y2 (And.intro @Wj (And.intro @Bfv (And.intro @Bso (And.intro @Bpc (And.intro @Bpd (And.intro @Bz5 (@Boa)))))))))))
def B89:=And.intro @X9.eq_1 (And.intro @X9.eq_2 (And.intro @X9.eq_3 (@X9.eq_def)))
def B9d:=And.intro @Da.eq_1 (And.intro @Da.eq_2 (And.intro @Da.eq_def (And.intro @Ml.eq_1 (And.intro @Ml.eq_2 (And.intro @Ml.eq_3 (And.intro @Ml.eq_1 (And.intro @Ml.eq_2 (And.intro @Ml.eq_3 (And.intro @Ml.eq_def (And.intro @gd0 (@gd1)))))))))))
def B9e:=And.intro @gd2 (And.intro @gd3 (And.intro @gd4 (And.intro @gd5 (And.intro @Bf.eq_1 (And.intro @B53 (@B54))))))
def B9f:=And.intro @Bzx.eq_1 (And.intro @Zl.eq_1 (And.intro @Zl.eq_2 (And.intro @Zk.eq_1 (And.intro @Zk.eq_2 (And.intro @Zk.eq_def (And.intro @Bb0.eq_1 (And.intro @Bb0.eq_2 (And.intro @Ut.eq_1 (And.intro @Ut.eq_2 (And.intro @Ut.eq_def (@Wh.eq_1)))))))))))
def B9g:=And.intro @Wh.eq_2 (And.intro @Wh.eq_3 (And.intro @Wh.eq_4 (And.intro @Wh.eq_5 (@Wh.eq_def))))
def evE:=And.intro Bwy (And.intro Bwz (And.intro Bw0 (And.intro Bw1 (And.intro Bw2 (And.intro Bw3 (And.intro Bw4 (And.intro Bw5 (And.intro Bw6 (And.intro Bw7 (And.intro Bnc (And.intro Bnd (And.intro Bne (And.intro Bnf (And.intro Bng (And.intro Bnh (And.intro Bni (And.intro Bnj (And.intro s_0 (s_1)))))))))))))))))))
def Cn:=And.intro Bwy (And.intro Bwz (And.intro Bw0 (And.intro Bw1 (And.intro Bw2 (And.intro Bw3 (And.intro Bw4 (And.intro Bw5 (And.intro Bw6 (And.intro Bw7 (And.intro Bnc (And.intro Bnd (And.intro Bne (And.intro Bnf (And.intro Bng (And.intro Bnh (And.intro Bni (And.intro Bnj (And.intro B9a (And.intro B9b (B9c))))))))))))))))))))
def evA:=And.intro Bwy (And.intro Bwz (And.intro Bw0 (And.intro Bw1 (And.intro Bw2 (And.intro Bw3 (And.intro Bw4 (And.intro Bw5 (And.intro Bw6 (And.intro Bw7 (And.intro Bnc (And.intro Bnd (And.intro Bne (And.intro Bnf (And.intro Bng (And.intro Bnh (And.intro Bni (And.intro Bnj (And.intro B8r (And.intro B8s (And.intro B8t (And.intro B8u (And.intro B8v (And.intro B8w (B8x))))))))))))))))))))))))
def Yl:=And.intro Bwy (And.intro Bwz (And.intro Bw0 (And.intro Bw1 (And.intro Bw2 (And.intro Bw3 (And.intro Bw4 (And.intro Bw5 (And.intro Bw6 (And.intro Bw7 (And.intro Bnc (And.intro Bnd (And.intro Bne (And.intro Bnf (And.intro Bng (And.intro Bnh (And.intro Bni (And.intro Bnj (And.intro B8y (And.intro B8z (And.intro B80 (And.intro B81 (And.intro B82 (And.intro B83 (And.intro B84 (And.intro B85 (And.intro B86 (And.intro B87 (And.intro B5h (And.intro B5i (B5j))))))))))))))))))))))))))))))
def Ci:=And.intro Yl (And.intro B88 (B89))
def Ce:=And.intro Ci (And.intro B9d (B9e))
def Uq:=And.intro B9f (B9g)
end Go.Proofs.YtpajcoanfkeibaaGreatDoor.Code
