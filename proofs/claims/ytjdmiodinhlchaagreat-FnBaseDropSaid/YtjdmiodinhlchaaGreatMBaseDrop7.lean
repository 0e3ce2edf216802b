/- Lemmas (several texts in one). -/
import Derived.Test.YtjdmiodinhlchaaGreatMBaseDrop4
import Derived.Test.YtjdmiodinhlchaaGreatMBaseDrop5
import Derived.Test.YtjdmiodinhlchaaGreatMBaseDrop6
set_option maxRecDepth 100000
set_option linter.unusedSimpArgs false
set_option linter.unusedVariables false
set_option linter.defProp false
set_option maxHeartbeats 4000000
namespace Go.Proofs.YtjdmiodinhlchaaGreat.Code
open Go Go.Ev Go.Proofs
abbrev Sc:=Bm×Int
abbrev Pr:=Bm×Bm
def G1 (x:Sc):D:= .agg [.str x.1, .int .i64 x.2]
def Jh (x:Pr):D:= .agg [.str x.1, .str x.2]
abbrev Cs (xs:List Sc):D:= .vals 2 (xs.map G1)
abbrev Dp (xs:List Pr):D:= .vals 2 (xs.map Jh)
structure En where
 key:Bm
 till:Int
 kind:Int
 text:Bm
 list:List Bm
 scores:List Sc
 fields:List Pr
def Dw (e:En):D:= .agg [.str e.key, .int .i64 e.till, .int .i64 e.kind, .str e.text,Bf e.list,Cs e.scores,Dp e.fields]
def Bko (n:Int):Prop:= -9223372036854775808≤n∧n≤9223372036854775807
structure EnFit (e:En):Prop where
 key:e.key.length≤9223372036854775807
 text:e.text.length≤9223372036854775807
 list:e.list.length≤9223372036854775807
 lists: ∀i,(e.list.getD i []).length≤9223372036854775807
 scores:e.scores.length≤9223372036854775807
 scoress: ∀i,((e.scores.getD i ([],0)).1).length≤9223372036854775807
 fields:e.fields.length≤9223372036854775807
 fieldss: ∀i,((e.fields.getD i ([],[])).1).length≤9223372036854775807∧((e.fields.getD i ([],[])).2).length≤9223372036854775807
 till:Bko e.till
 kind:Bko e.kind
structure Ba where
 now:Int
 ents:List En
abbrev Kr (es:List En):D:= .vals 7 (es.map Dw)
def Cv (b:Ba):D:= .agg [.int .i64 b.now,Kr b.ents]
inductive Re where
 |mk (kind num:Int) (text:Bm) (texts:List Bm) (Wg:List Re)
def Re.kind:Re→Int| .mk k _ _ _ _=>k
def Re.num:Re→Int| .mk _ n _ _ _=>n
def Re.text:Re→Bm| .mk _ _ t _ _=>t
def Re.texts:Re→List Bm| .mk _ _ _ l _=>l
def Re.many:Re→List Re| .mk _ _ _ _ m=>m
def T4:Re→D
 | .mk k n t l m=> .agg [.int .i64 k, .int .i64 n, .str t,Bf l, .vals 5 (m.attach.map fun x=>T4 x.1)]
termination_by r=>SizeOf.sizeOf r
decreasing_by
 have:=List.sizeOf_lt_of_mem x.2
 simp only[Re.mk.sizeOf_spec]
 omega
theorem Bad (k n:Int) (t:Bm) (l:List Bm) (m:List Re):T4 (.mk k n t l m)= .agg [.int .i64 k, .int .i64 n, .str t,Bf l, .vals 5 (m.map T4)]:=by
 rw[T4.eq_1]
 simp
theorem Bjm (x:Sc): (G1 x).cells=[.str x.1, .int .i64 x.2]:=rfl
theorem Bfv (x:Sc): (V.d (G1 x)).cells=[.d (.str x.1), .d (.int .i64 x.2)]:=rfl
theorem Bqk (x:Sc): (V.d (G1 x)).isAgg=true:=rfl
theorem Bm1 (a:Bm) (n:Int):D.agg [.str a, .int .i64 n]=G1 (a,n):=rfl
theorem Bi9 (x:Pr): (Jh x).cells=[.str x.1, .str x.2]:=rfl
theorem Bfg (x:Pr): (V.d (Jh x)).cells=[.d (.str x.1), .d (.str x.2)]:=rfl
theorem Bqd (x:Pr): (V.d (Jh x)).isAgg=true:=rfl
theorem Bmc (a b:Bm):D.agg [.str a, .str b]=Jh (a,b):=rfl
theorem Bii (e:En): (Dw e).cells=[.str e.key, .int .i64 e.till, .int .i64 e.kind, .str e.text,Bf e.list,Cs e.scores,Dp e.fields]:=rfl
theorem Beb (e:En): (V.d (Dw e)).cells=[.d (.str e.key), .d (.int .i64 e.till), .d (.int .i64 e.kind), .d (.str e.text), .d (Bf e.list), .d (Cs e.scores), .d (Dp e.fields)]:=rfl
theorem Bpy (e:En): (V.d (Dw e)).isAgg=true:=rfl
theorem Blh (k:Bm) (t d:Int) (x:Bm) (l:List Bm) (s:List Sc) (f:List Pr):D.agg [.str k, .int .i64 t, .int .i64 d, .str x, .vals 1 (l.map D.str),Cs s,Dp f]=Dw ⟨k,t,d,x,l,s,f⟩:=rfl
theorem Bh4 (b:Ba): (Cv b).cells=[.int .i64 b.now,Kr b.ents]:=rfl
theorem Bdu (b:Ba): (V.d (Cv b)).cells=[.d (.int .i64 b.now), .d (Kr b.ents)]:=rfl
theorem Bpa (b:Ba): (V.d (Cv b)).isAgg=true:=rfl
theorem Bk2 (n:Int) (es:List En):D.agg [.int .i64 n,Kr es]=Cv ⟨n,es⟩:=rfl
instance:Inhabited En:=⟨⟨[],0,0,[],[],[],[]⟩⟩
theorem F4 (es:List En) (i:Nat) (hi:i<es.length): (es.map Dw).getD i .nilp=Dw (es.getD i default):=by
 simp[List.getD_eq_getElem?_getD,hi]
theorem Fz {α:Type} {xs:List α} {i:Nat} {d:α} (hi:i<xs.length):xs.getD i d∈xs:=by
 rw[List.getD_eq_getElem?_getD,List.getElem?_eq_getElem hi]
 exact List.getElem_mem hi
structure BaFit (b:Ba):Prop where
 now:Bko b.now
 len:b.ents.length≤9223372036854775807
 each: ∀e∈b.ents,EnFit e
theorem Blo (n e:Nat) (H:Hp):Tp n H (.nils e)=some (.d (.vals e [])):=rfl
theorem Bfj (r:Re):T4 r= .agg [.int .i64 r.kind, .int .i64 r.num, .str r.text,Bf r.texts, .vals 5 (r.many.map T4)]:=by
 cases r;exact Bad ..
theorem Bjg (r:Re): (T4 r).cells=[.int .i64 r.kind, .int .i64 r.num, .str r.text,Bf r.texts, .vals 5 (r.many.map T4)]:=by rw[Bfj];rfl
theorem Bfk (r:Re): (V.d (T4 r)).cells=[.d (.int .i64 r.kind), .d (.int .i64 r.num), .d (.str r.text), .d (Bf r.texts), .d (.vals 5 (r.many.map T4))]:=by rw[Bfj];rfl
theorem Bqh (r:Re): (V.d (T4 r)).isAgg=true:=by rw[Bfj];rfl
theorem Bmo (k n:Int) (t:Bm) (l:List Bm) (m:List Re):D.agg [.int .i64 k, .int .i64 n, .str t, .vals 1 (l.map D.str), .vals 5 (m.map T4)]=T4 (.mk k n t l m):=(Bad ..).symm
theorem Bjh (k n:Int) (t:Bm):D.agg [.int .i64 k, .int .i64 n, .str t, .vals 1 [], .vals 5 []]=T4 (.mk k n t [] []):=(Bad k n t [] []).symm
theorem Bji (k n:Int) (t:Bm) (l:List Bm):D.agg [.int .i64 k, .int .i64 n, .str t, .vals 1 (l.map D.str), .vals 5 []]=T4 (.mk k n t l []):=(Bad k n t l []).symm
theorem Bto (r:Re):Re.mk r.kind r.num r.text r.texts r.many=r:=by cases r;rfl
theorem Bij (k:Bm) (t d:Int) (x:Bm):D.agg [.str k, .int .i64 t, .int .i64 d, .str x, .vals 1 [], .vals 2 [], .vals 2 []]=Dw ⟨k,t,d,x,[],[],[]⟩:=rfl
theorem Dr (n:Int):D.agg [.int .i64 n, .vals 7 []]=Cv ⟨n,[]⟩:=rfl
theorem gd0 {α:Type} (x:α) (r:List α) (d:α): (x::r).getD 0 d=x:=rfl
theorem gd1 {α:Type} (x y:α) (r:List α) (d:α): (x::y::r).getD 1 d=y:=rfl
theorem gd2 {α:Type} (x y z:α) (r:List α) (d:α): (x::y::z::r).getD 2 d=z:=rfl
theorem gd3 {α:Type} (x y z u:α) (r:List α) (d:α): (x::y::z::u::r).getD 3 d=u:=rfl
theorem gd4 {α:Type} (x y z u v:α) (r:List α) (d:α): (x::y::z::u::v::r).getD 4 d=v:=rfl
theorem gd5 {α:Type} (x y z u v w:α) (r:List α) (d:α): (x::y::z::u::v::w::r).getD 5 d=w:=rfl
theorem Buk {α:Type} (x:α) (l:List α): [x]++l=x::l:=rfl
theorem Bul {α:Type} (l:List α): []++l=l:=rfl
theorem Bum {α:Type} (x:α) (l m:List α):x::l++m=x:: (l++m):=rfl
theorem Byl {α:Type} {l:List α} {i:Nat} (h:l.length≤i):List.take i l=l:=List.take_of_length_le h
theorem Bym {α β:Type} (f:α→β) (x:α) (l:List α):List.map f (x::l)=f x::List.map f l:=rfl
theorem Btb (G:Fh) (env:Ev.Env) (H:Hp):Ev.Pw G env H []=some ([],H):=rfl
theorem Bta (G:Fh) (env:Ev.Env) (H:Hp) (k:Bool) (x:AOpd) (r:List (Bool×AOpd)):Ev.Pw G env H ((k,x)::r)=(match S1 H k (Cn G env x) with
  |some (v,H)=> (match Ev.Pw G env H r with
   |some (vs,H)=>some (v::vs,H)
   |none=>none)
  |none=>none):=rfl
theorem Byn {α β:Type} (f:α→β):List.map f []=[]:=rfl
def Bql:=And.intro @Pz.eq_1 (And.intro @Pz.eq_2 (And.intro @Pz.eq_3 (And.intro @Pz.eq_def (And.intro @Bf4.eq_1 (And.intro @Bf4.eq_2 (And.intro @Bc3.eq_1 (And.intro @Bc3.eq_2 (And.intro @Bc3.eq_3 (And.intro @Bc3.eq_def (And.intro @Ce.eq_1 (@Bo.eq_1)))))))))))
def Bqm:=And.intro @Bo.eq_2 (And.intro @Bo.eq_3 (And.intro @Bo.eq_4 (And.intro @Bo.eq_5 (And.intro @Bo.eq_6 (And.intro @Bo.eq_7 (And.intro @Bo.eq_8 (And.intro @Bo.eq_9 (And.intro @Bo.eq_10 (And.intro @Bo.eq_11 (And.intro @Bo.eq_12 (@Lq.eq_1)))))))))))
def Bqn:=And.intro @Lq.eq_2 (And.intro @Du.eq_1 (And.intro @Xi.eq_1 (And.intro @Xi.eq_2 (And.intro @Xi.eq_3 (And.intro @Go.Ev.Bgf.eq_1 (And.intro @Bw.eq_1 (And.intro @Bw.eq_2 (And.intro @Bw.eq_3 (And.intro @Bw.eq_4 (And.intro @Bw.eq_5 (@Bw.eq_6)))))))))))
def Bqo:=And.intro @Bw.eq_7 (And.intro @Bw.eq_8 (And.intro @Bw.eq_9 (And.intro @Bw.eq_10 (And.intro @Bw.eq_11 (And.intro @Bw.eq_12 (And.intro @Bw.eq_13 (And.intro @Bw.eq_14 (And.intro @Bw.eq_15 (And.intro @Bw.eq_16 (And.intro @Bw.eq_17 (@Bw.eq_18)))))))))))
def Bqp:=And.intro @Bw.eq_19 (And.intro @Bw.eq_20 (And.intro @Bw.eq_21 (And.intro @Bw.eq_22 (And.intro @Bw.eq_23 (And.intro @Bw.eq_24 (And.intro @Bw.eq_25 (And.intro @Bw.eq_26 (And.intro @Bw.eq_27 (And.intro @Bw.eq_28 (And.intro @Bw.eq_29 (@Bw.eq_30)))))))))))
def Bqq:=And.intro @Bw.eq_31 (And.intro @Bw.eq_32 (And.intro @Bw.eq_33 (And.intro @Bw.eq_34 (And.intro @Bw.eq_35 (And.intro @Bw.eq_36 (And.intro @Bw.eq_37 (And.intro @Bw.eq_38 (And.intro @Bw.eq_39 (And.intro @Bw.eq_40 (And.intro @Bw.eq_41 (@Bw.eq_42)))))))))))
def Bqr:=And.intro @Bw.eq_43 (And.intro @Bw.eq_def (And.intro @Cn.eq_1 (And.intro @Cn.eq_2 (And.intro @Cn.eq_3 (And.intro @Cn.eq_4 (And.intro @Cn.eq_5 (And.intro @Cn.eq_6 (And.intro @Cn.eq_def (And.intro @Go.Ev.Env.get.eq_1 (And.intro @Go.Ev.Env.get.eq_2 (@Go.Ev.Env.put.eq_1)))))))))))
def Bqs:=And.intro @Go.Ev.Env.put.eq_2 (And.intro @Go.Ev.Env.keep.eq_1 (And.intro @Go.Ev.Env.keep.eq_2 (And.intro @Md.eq_1 (And.intro @Md.eq_2 (And.intro @V.ok.eq_1 (And.intro @V.ok.eq_2 (And.intro @V.ok.eq_def (And.intro @V.sto.eq_1 (And.intro @V.sto.eq_2 (And.intro @V.sto.eq_3 (@V.sto.eq_4)))))))))))
def Bqt:=And.intro @V.sto.eq_def (And.intro @Tk.eq_1 (And.intro @Tk.eq_2 (And.intro @Tk.eq_3 (And.intro @Tk.eq_4 (And.intro @Tk.eq_5 (And.intro @Tk.eq_6 (And.intro @Tk.eq_7 (And.intro @Tk.eq_8 (And.intro @Tk.eq_def (And.intro @Fk.eq_1 (@Fk.eq_2)))))))))))
def Bqu:=And.intro @Fk.eq_3 (And.intro @Fk.eq_4 (And.intro @Fk.eq_5 (And.intro @Fk.eq_6 (And.intro @Fk.eq_7 (And.intro @Fk.eq_8 (And.intro @Fk.eq_9 (And.intro @Fk.eq_10 (And.intro @Fk.eq_11 (And.intro @Fk.eq_12 (And.intro @Fk.eq_def (@Kk.eq_1)))))))))))
def Bhn:=And.intro @Kk.eq_2 (And.intro @Kk.eq_3 (And.intro @Kk.eq_4 (And.intro @Kk.eq_5 (And.intro @Kk.eq_6 (And.intro @Kk.eq_7 (And.intro @Kk.eq_8 (And.intro @Kk.eq_def (And.intro @Tf.eq_1 (And.intro @Tf.eq_2 (And.intro @Tf.eq_3 (@Tf.eq_def)))))))))))
def Bho:=And.intro @unD.eq_1 (And.intro @unD.eq_2 (And.intro @unD.eq_3 (And.intro @unD.eq_def (And.intro @Um.eq_1 (And.intro @Um.eq_2 (And.intro @Um.eq_3 (And.intro @Um.eq_4 (And.intro @Um.eq_5 (And.intro @Um.eq_6 (And.intro @Um.eq_def (@asI.eq_1)))))))))))
def Bhp:=And.intro @asI.eq_2 (And.intro @asI.eq_def (And.intro @Bbp.eq_1 (And.intro @N4.eq_1 (And.intro @N4.eq_2 (And.intro @N4.eq_3 (And.intro @N4.eq_def (And.intro @F2.eq_1 (And.intro @F2.eq_2 (And.intro @fzV.eq_1 (And.intro @fzV.eq_2 (@fzV.eq_3)))))))))))
def Bhq:=And.intro @fzV.eq_def (And.intro @Xf.eq_1 (And.intro @Xf.eq_2 (And.intro @Xf.eq_def (And.intro @Nl.eq_1 (And.intro @Nl.eq_2 (And.intro @Nl.eq_3 (And.intro @Nl.eq_def (And.intro @Gu.eq_1 (And.intro @Gu.eq_2 (And.intro @Gu.eq_3 (@Gu.eq_4)))))))))))
def Bhr:=And.intro @Gu.eq_5 (And.intro @Gu.eq_def (And.intro @Gq.eq_1 (And.intro @Gq.eq_2 (And.intro @Gq.eq_3 (And.intro @Gq.eq_4 (And.intro @Gq.eq_def (And.intro @Btb (And.intro @Bta (And.intro @S0.eq_1 (And.intro @S0.eq_2 (@S0.eq_3)))))))))))
def Bhs:=And.intro @S0.eq_def (And.intro @Q6.eq_1 (And.intro @Q6.eq_2 (And.intro @Q6.eq_3 (And.intro @Q6.eq_4 (And.intro @Q6.eq_def (And.intro @Fi.eq_1 (And.intro @Fi.eq_2 (And.intro @Fi.eq_3 (And.intro @Kt.eq_1 (And.intro @Jf.eq_1 (@Jf.eq_2)))))))))))
def Bht:=And.intro @Jf.eq_3 (And.intro @Jf.eq_def (And.intro @Bpb (And.intro @IntKind.bits.eq_1 (And.intro @IntKind.bits.eq_2 (And.intro @IntKind.bits.eq_3 (And.intro @IntKind.bits.eq_4 (And.intro @IntKind.bits.eq_5 (And.intro @IntKind.bits.eq_6 (And.intro @IntKind.bits.eq_7 (And.intro @IntKind.bits.eq_8 (@IntKind.bits.eq_def)))))))))))
def Bhu:=And.intro @S1.eq_1 (And.intro @S1.eq_2 (And.intro @S1.eq_def (And.intro @mV.eq_1 (And.intro @oP.eq_1 (And.intro @oG.eq_1 (And.intro @oN.eq_1 (And.intro @oL.eq_1 (@oF.eq_1))))))))
def s_0:=And.intro @V.cells.eq_1 (And.intro @V.cells.eq_2 (And.intro @V.cells.eq_3 (And.intro @V.cells.eq_def (And.intro @D.cells.eq_1 (And.intro @D.cells.eq_2 (And.intro @D.cells.eq_def (And.intro @V.isAgg.eq_1 (And.intro @V.isAgg.eq_2 (And.intro @V.isAgg.eq_3 (And.intro @V.isAgg.eq_def (@Tp.eq_1)))))))))))
def s_1:=And.intro @Tp.eq_2 (And.intro @Tp.eq_3 (And.intro @Tp.eq_4 (And.intro @Tp.eq_def (And.intro @Ck.eq_1 (@Bc.eq_1)))))
def B11:=And.intro @V.cells.eq_1 (And.intro @V.cells.eq_2 (And.intro @V.cells.eq_3 (And.intro @V.cells.eq_def (And.intro @D.cells.eq_1 (And.intro @D.cells.eq_2 (And.intro @D.cells.eq_def (And.intro @V.isAgg.eq_1 (And.intro @V.isAgg.eq_2 (And.intro @V.isAgg.eq_3 (And.intro @V.isAgg.eq_def (@Gp)))))))))))
def B12:=And.intro @Df (And.intro @C5 (And.intro @Mh (And.intro @Ci (And.intro @M7.eq_1 (And.intro @Gt.eq_1 (And.intro @Gt.eq_2 (And.intro @Gt.eq_3 (And.intro @Gt.eq_def (And.intro @Dx.eq_1 (And.intro @Dx.eq_2 (@Dx.eq_3)))))))))))
def B13:=And.intro @Dx.eq_4 (And.intro @Dx.eq_5 (And.intro @Dx.eq_def (And.intro @Bln (@Bp2))))
def B1i:=And.intro @V.cells.eq_1 (And.intro @V.cells.eq_2 (And.intro @V.cells.eq_3 (And.intro @V.cells.eq_def (And.intro @D.cells.eq_1 (And.intro @D.cells.eq_2 (And.intro @D.cells.eq_def (And.intro @V.isAgg.eq_1 (And.intro @V.isAgg.eq_2 (And.intro @V.isAgg.eq_3 (And.intro @V.isAgg.eq_def (@M7.eq_1)))))))))))
def B1j:=And.intro @Gt.eq_1 (And.intro @Gt.eq_2 (And.intro @Gt.eq_3 (And.intro @Gt.eq_def (And.intro @Dx.eq_1 (And.intro @Dx.eq_2 (And.intro @Dx.eq_3 (And.intro @Dx.eq_4 (And.intro @Dx.eq_5 (And.intro @Dx.eq_def (And.intro @Rc.eq_1 (@Rc.eq_2)))))))))))
def B1k:=And.intro @Rc.eq_3 (And.intro @Rc.eq_4 (And.intro @Rc.eq_5 (And.intro @Rc.eq_def (And.intro @Bln (And.intro @ap0 (And.intro @Bgs (And.intro @K9 (And.intro @Zc (And.intro @Qc (And.intro @Bgt (@Ub)))))))))))
def B1l:=And.intro @Lm (And.intro @Uc (And.intro @Bdr (And.intro @Bgr (And.intro @Bkx (And.intro @Bgq (And.intro @Zb (And.intro @Bau (And.intro @Bkw (And.intro @Bgn (And.intro @Bgo (@Bgp)))))))))))
def B1m:=And.intro @Cm.eq_1 (And.intro @C3.eq_1 (And.intro @Km.eq_1 (And.intro @B6.eq_1 (And.intro @B6.eq_2 (And.intro @B6.eq_3 (And.intro @Bu.eq_1 (And.intro @Bu.eq_2 (And.intro @Bu.eq_3 (And.intro @Jt.eq_1 (And.intro @Jt.eq_2 (@Jt.eq_3)))))))))))
def B1n:=And.intro @Jt.eq_def (And.intro @Nc.eq_1 (And.intro @Nc.eq_2 (And.intro @Nc.eq_3 (And.intro @Nc.eq_4 (And.intro @Nc.eq_def (And.intro @Pe (And.intro @T9 (And.intro @Bky (And.intro @Zp.eq_1 (And.intro @Zp.eq_2 (@Buk)))))))))))
def B1o:=And.intro @Bul (@Bum)
def B1p:=And.intro @M7.eq_1 (And.intro @Gt.eq_1 (And.intro @Gt.eq_2 (And.intro @Gt.eq_3 (And.intro @Gt.eq_def (And.intro @Dx.eq_1 (And.intro @Dx.eq_2 (And.intro @Dx.eq_3 (And.intro @Dx.eq_4 (And.intro @Dx.eq_5 (And.intro @Dx.eq_def (@Rc.eq_1)))))))))))
def B1q:=And.intro @Rc.eq_2 (And.intro @Rc.eq_3 (And.intro @Rc.eq_4 (And.intro @Rc.eq_5 (And.intro @Rc.eq_def (And.intro @Bln (And.intro @ap0 (And.intro @K9 (And.intro @Zc (And.intro @Qc (And.intro @Bgt (@Ub)))))))))))
def B1r:=And.intro @Lm (And.intro @Uc (And.intro @Bdr (And.intro @Bgr (And.intro @Bkx (And.intro @Bgq (And.intro @Zb (And.intro @Bau (And.intro @Bkw (And.intro @Bgn (And.intro @Bgo (@Bgp)))))))))))
def B1s:=And.intro @Cm.eq_1 (And.intro @C3.eq_1 (And.intro @Km.eq_1 (And.intro @B6.eq_1 (And.intro @B6.eq_2 (And.intro @B6.eq_3 (And.intro @Bu.eq_1 (And.intro @Bu.eq_2 (And.intro @Bu.eq_3 (And.intro @Jt.eq_1 (And.intro @Jt.eq_2 (@Jt.eq_3)))))))))))
def B1t:=And.intro @Jt.eq_def (And.intro @Nc.eq_1 (And.intro @Nc.eq_2 (And.intro @Nc.eq_3 (And.intro @Nc.eq_4 (And.intro @Nc.eq_def (And.intro @Pe (And.intro @T9 (And.intro @Bky (And.intro @Zp.eq_1 (And.intro @Zp.eq_2 (@Buk)))))))))))
def B1u:=And.intro @Bul (And.intro @Bum (And.intro @Bkv (And.intro @Bt4 (And.intro @Brf (And.intro @Btw (And.intro @Bq7 (And.intro @Bs0 (And.intro @Bua (And.intro @Bt2 (And.intro @Bs3 (@Bt7)))))))))))
def B1v:=And.intro @Btz (And.intro @Bs2 (And.intro @Bre (And.intro @Bq6 (And.intro @Bpg (And.intro @Brl (And.intro @Brd (And.intro @Bpk (And.intro @Bri (And.intro @Bra (And.intro @Bpi (@Brk)))))))))))
def B1w:=And.intro @Brc (And.intro @Bpj (And.intro @Bt5 (And.intro @Btx (And.intro @Bs1 (And.intro @Bns (And.intro @Bnq (And.intro @Blb (And.intro @Bnr (And.intro @Bnp (And.intro @Bla (@Bj4)))))))))))
def B1x:=And.intro @Bj3 (And.intro @Bib (And.intro @Brh (And.intro @Bq9 (And.intro @Bph (And.intro @Bt9 (And.intro @Bt1 (And.intro @Bt8 (And.intro @Bt0 (And.intro @Bt6 (And.intro @Bty (@Brg)))))))))))
def B1y:=And.intro @Bq8 (And.intro @Brj (And.intro @Brb (And.intro @Bub (And.intro @Bt3 (And.intro @Bjm (And.intro @Bfv (And.intro @Bqk (And.intro @Bm1 (And.intro @Bi9 (And.intro @Bfg (@Bqd)))))))))))
def Bx3:=And.intro @Bmc (And.intro @Bii (And.intro @Beb (And.intro @Bpy (And.intro @Blh (And.intro @Bh4 (And.intro @Bdu (And.intro @Bpa (And.intro @Bk2 (And.intro @Gp (And.intro @Qh (@Bgk.eq_1)))))))))))
def Bx4:=And.intro @Bgk.eq_2 (And.intro @Bgk.eq_def (And.intro @Bo7.eq_1 (And.intro @Bo7.eq_2 (And.intro @Bo7.eq_def (And.intro @Bc2 (And.intro @Bj1 (And.intro @Bnd (And.intro @Beg (And.intro @Bp1 (And.intro @Bbt (@Wh)))))))))))
def Bx5:=And.intro @By2 (@Byl)
def B1z:=And.intro @Mg.eq_1 (And.intro @Mg.eq_2 (And.intro @Y5.eq_1 (And.intro @Blo (And.intro @Bjg (And.intro @Bfk (And.intro @Bqh (And.intro @Bmo (And.intro @Bjh (And.intro @Bji (And.intro @Bto (@Bij)))))))))))
def B10:=And.intro @Ry.eq_1 (And.intro @Ry.eq_2 (And.intro @Ry.eq_3 (@Ry.eq_def)))
def B14:=And.intro @Co.eq_1 (And.intro @Co.eq_2 (And.intro @Co.eq_def (And.intro @J7.eq_1 (And.intro @J7.eq_2 (And.intro @J7.eq_3 (And.intro @J7.eq_1 (And.intro @J7.eq_2 (And.intro @J7.eq_3 (And.intro @J7.eq_def (And.intro @gd0 (@gd1)))))))))))
def B15:=And.intro @gd2 (And.intro @gd3 (And.intro @gd4 (And.intro @gd5 (And.intro @Bf.eq_1 (And.intro @Bym (@Byn))))))
def B16:=And.intro @Btg.eq_1 (And.intro @S7.eq_1 (And.intro @S7.eq_2 (And.intro @S6.eq_1 (And.intro @S6.eq_2 (And.intro @S6.eq_def (And.intro @Wn.eq_1 (And.intro @Wn.eq_2 (And.intro @P4.eq_1 (And.intro @P4.eq_2 (And.intro @P4.eq_def (@Qm.eq_1)))))))))))
def B17:=And.intro @Qm.eq_2 (And.intro @Qm.eq_3 (And.intro @Qm.eq_4 (And.intro @Qm.eq_5 (@Qm.eq_def))))
def evE:=And.intro Bql (And.intro Bqm (And.intro Bqn (And.intro Bqo (And.intro Bqp (And.intro Bqq (And.intro Bqr (And.intro Bqs (And.intro Bqt (And.intro Bqu (And.intro Bhn (And.intro Bho (And.intro Bhp (And.intro Bhq (And.intro Bhr (And.intro Bhs (And.intro Bht (And.intro Bhu (And.intro s_0 (s_1)))))))))))))))))))
def B9:=And.intro Bql (And.intro Bqm (And.intro Bqn (And.intro Bqo (And.intro Bqp (And.intro Bqq (And.intro Bqr (And.intro Bqs (And.intro Bqt (And.intro Bqu (And.intro Bhn (And.intro Bho (And.intro Bhp (And.intro Bhq (And.intro Bhr (And.intro Bhs (And.intro Bht (And.intro Bhu (And.intro B11 (And.intro B12 (B13))))))))))))))))))))
def evA:=And.intro Bql (And.intro Bqm (And.intro Bqn (And.intro Bqo (And.intro Bqp (And.intro Bqq (And.intro Bqr (And.intro Bqs (And.intro Bqt (And.intro Bqu (And.intro Bhn (And.intro Bho (And.intro Bhp (And.intro Bhq (And.intro Bhr (And.intro Bhs (And.intro Bht (And.intro Bhu (And.intro B1i (And.intro B1j (And.intro B1k (And.intro B1l (And.intro B1m (And.intro B1n (B1o))))))))))))))))))))))))
def R7:=And.intro Bql (And.intro Bqm (And.intro Bqn (And.intro Bqo (And.intro Bqp (And.intro Bqq (And.intro Bqr (And.intro Bqs (And.intro Bqt (And.intro Bqu (And.intro Bhn (And.intro Bho (And.intro Bhp (And.intro Bhq (And.intro Bhr (And.intro Bhs (And.intro Bht (And.intro Bhu (And.intro B1p (And.intro B1q (And.intro B1r (And.intro B1s (And.intro B1t (And.intro B1u (And.intro B1v (And.intro B1w (And.intro B1x (And.intro B1y (And.intro Bx3 (And.intro Bx4 (Bx5))))))))))))))))))))))))))))))
def B4:=And.intro R7 (And.intro B1z (B10))
def Ca:=And.intro B4 (And.intro B14 (B15))
def Un:=And.intro B16 (B17)
def G0 (xs:List Bm) (i:Nat):Bool:=decide (40< (xs.getD i []).length)
def B5 (xs:List Bm):Bool:=(Ds (G0 xs) xs.length 0).isNone&&decide (xs.length≤16)
theorem Bve (n0:Nat) (xs:List Bm) (hx:xs.length≤9223372036854775807) (H:Hp): ∀ (n i:Nat) (e:Env),i+n=xs.length→e.get 0= .d (Bf xs)→e.get 3= .d (.int .i64 i)→
  ∃e',Bg (Bo (ev R) R.glob n0 Bg X6) [0,3] ⟨e,H⟩=some ((match Ds (G0 xs) n i with|some _=> .ret|none=> .exit 0),⟨e',H⟩)∧
   (∀j,Ds (G0 xs) n i=some j→e'.get 2= .d (.bool false))∧(Ds (G0 xs) n i=none→e'.get 0= .d (Bf xs))
 |0,i,e,hn,h0,h3=>by
  have c: ¬ (i:Int)< (xs.length:Int):=by omega
  have c': ¬i<xs.length:=by omega
  rw[Bz]
  refine⟨?_, ?_, ?_, ?_⟩
  rotate_left
  ·simp[B9,-List.getD_eq_getElem?_getD,-List.map_map,X6,h0,h3,Bf,c,c',Ds]
   rfl
  ·intro j hj;simp[Ds] at hj
  ·intro _
   try refine⟨?_, ?_⟩
   all_goals (first|trivial|simp[B9,-List.getD_eq_getElem?_getD,-List.map_map,h0,h3,Bf])
 |n+1,i,e,hn,h0,h3=>by
  have c: (i:Int)< (xs.length:Int):=by omega
  have c':i<xs.length:=by omega
  have g:=Cw xs i c'
  have w1:IntKind.i64.wrap ((i:Int)+1)=((i+1:Nat):Int):=by rw[IntWalk.i64_in _ (by omega)];rfl
  have ih:=Bve n0 xs hx H n (i+1)
  rw[Bz]
  generalize Bg (Bo (ev R) R.glob n0 Bg X6) [0,3]=F at ih⊢
  by_cases hb:40< (xs.getD i []).length
  ·have hb': (40:Int)< ((xs.getD i []).length:Int):=by omega
   refine⟨?_, ?_, ?_, ?_⟩
   rotate_left
   ·simp[B9,-List.getD_eq_getElem?_getD,-List.map_map,X6,h0,h3,Bf,c,c',g,hb,hb',Ds,G0]
    rfl
   ·intro j hj
    simp[Ds,G0,hb,-List.getD_eq_getElem?_getD] at hj
    try subst hj
    simp[B9,-List.getD_eq_getElem?_getD,-List.map_map]
   ·intro hj;simp[Ds,G0,hb,-List.getD_eq_getElem?_getD] at hj
  ·have hb': ¬ (40:Int)< ((xs.getD i []).length:Int):=by omega
   have hs:Ds (G0 xs) (n+1) i=Ds (G0 xs) n (i+1):=by simp[Ds,G0,hb,-List.getD_eq_getElem?_getD]
   rw[hs]
   simp[B9,-List.getD_eq_getElem?_getD,-List.map_map,X6,h0,h3,Bf,c,c',g,hb,hb',w1]
   refine ih _ (by omega) ?_ ?_<;>rfl
theorem Bvl (n0:Nat) (xs:List Bm) (hx:xs.length≤9223372036854775807) (m:Int) (H:Hp): ∀ (n i:Nat) (e:Env),i+n=xs.length→e.get 0= .d (Bf xs)→e.get 1= .d (.int .i64 m)→e.get 7= .d (Bf xs)→e.get 8= .d (.int .i64 xs.length)→e.get 9= .d (.int .i64 i)→
  ∃e',Bg (Bo (ev R) R.glob n0 Bg Ya) [0,1,7,8,9] ⟨e,H⟩=some ((match Ds (G0 xs) n i with|some _=> .ret|none=> .exit 0),⟨e',H⟩)∧
   (∀j,Ds (G0 xs) n i=some j→e'.get 4= .d (.bool false))∧(Ds (G0 xs) n i=none→e'.get 0= .d (Bf xs)∧e'.get 1= .d (.int .i64 m))
 |0,i,e,hn,h0,h1,h7,h8,h9=>by
  have c: ¬ (i:Int)< (xs.length:Int):=by omega
  have c': ¬i<xs.length:=by omega
  rw[Bz]
  refine⟨?_, ?_, ?_, ?_⟩
  rotate_left
  ·simp[B9,-List.getD_eq_getElem?_getD,-List.map_map,Ya,h0,h1,h7,h8,h9,Bf,c,c',Ds]
   rfl
  ·intro j hj;simp[Ds] at hj
  ·intro _
   try refine⟨?_, ?_⟩
   all_goals (first|trivial|simp[B9,-List.getD_eq_getElem?_getD,-List.map_map,h0,h1,h7,h8,h9,Bf])
 |n+1,i,e,hn,h0,h1,h7,h8,h9=>by
  have c: (i:Int)< (xs.length:Int):=by omega
  have c':i<xs.length:=by omega
  have g:=Cw xs i c'
  have w1:IntKind.i64.wrap ((i:Int)+1)=((i+1:Nat):Int):=by rw[IntWalk.i64_in _ (by omega)];rfl
  have ih:=Bvl n0 xs hx m H n (i+1)
  rw[Bz]
  generalize Bg (Bo (ev R) R.glob n0 Bg Ya) [0,1,7,8,9]=F at ih⊢
  by_cases hb:40< (xs.getD i []).length
  ·have hb': (40:Int)< ((xs.getD i []).length:Int):=by omega
   refine⟨?_, ?_, ?_, ?_⟩
   rotate_left
   ·simp[B9,-List.getD_eq_getElem?_getD,-List.map_map,Ya,h0,h1,h7,h8,h9,Bf,c,c',g,hb,hb',Ds,G0]
    rfl
   ·intro j hj
    simp[Ds,G0,hb,-List.getD_eq_getElem?_getD] at hj
    try subst hj
    simp[B9,-List.getD_eq_getElem?_getD,-List.map_map]
   ·intro hj;simp[Ds,G0,hb,-List.getD_eq_getElem?_getD] at hj
  ·have hb': ¬ (40:Int)< ((xs.getD i []).length:Int):=by omega
   have hs:Ds (G0 xs) (n+1) i=Ds (G0 xs) n (i+1):=by simp[Ds,G0,hb,-List.getD_eq_getElem?_getD]
   rw[hs]
   simp[B9,-List.getD_eq_getElem?_getD,-List.map_map,Ya,h0,h1,h7,h8,h9,Bf,c,c',g,hb,hb',w1]
   refine ih _ (by omega) ?_ ?_ ?_ ?_ ?_<;>rfl
theorem Zh (H:Hp) (xs:List Bm) (hx:xs.length≤9223372036854775807):ev R 56 [.d (Bf xs)] H=some (.d (.bool (B5 xs)),H):=by
 refine Bi (fn:=f56) rfl rfl ?_
 obtain⟨e',he,h1,h2⟩:=Bve (Bc H) xs hx H xs.length 0 [(0, .d (Bf xs)),(3, .d (.int .i64 0))] (by omega) rfl rfl
 cases hr:Ds (G0 xs) xs.length 0 with
 |some j=>
  simp only[hr] at he
  simp[B9,-List.getD_eq_getElem?_getD,-List.map_map,f56,he,h1 j hr,B5,hr]
 |none=>
  simp only[hr] at he
  have h3:=h2 hr
  simp[B9,-List.getD_eq_getElem?_getD,-List.map_map,f56,he,h3,B5,hr,Bf]
  omega
theorem By0 (H:Hp) (xs:List Bm) (hx:xs.length≤9223372036854775807):ev R 86 [.d (Bf xs), .d (.int .i64 16)] H=some (.d (.bool (B5 xs)),H):=by
 refine Bi (fn:=f86) rfl rfl ?_
 obtain⟨e',he,h1,h2⟩:=Bvl (Bc H) xs hx 16 H xs.length 0 [(0, .d (Bf xs)),(1, .d (.int .i64 16)),(7, .d (Bf xs)),(8, .d (.int .i64 xs.length)),(9, .d (.int .i64 0))] (by omega) rfl rfl rfl rfl rfl
 cases hr:Ds (G0 xs) xs.length 0 with
 |some j=>
  simp only[hr] at he
  simp[B9,-List.getD_eq_getElem?_getD,-List.map_map,f86,he,h1 j hr,B5,hr]
 |none=>
  simp only[hr] at he
  obtain⟨h3,h4⟩:=h2 hr
  simp[B9,-List.getD_eq_getElem?_getD,-List.map_map,f86,he,h3,h4,B5,hr,Bf]
  omega
theorem Ba8 (H:Hp) (xs:List Bm) (hx:xs.length≤9223372036854775807):ev R 65 [.d (Bf xs)] H=some (.d (.bool (B5 xs)),H):=by
 refine Bi (fn:=f65) rfl rfl ?_
 have p63:Be (ev R) 86 [.d (Bf xs), .d (.int .i64 16)]=some (.d (.bool (B5 xs))):=Bb fun H=>By0 H xs hx
 simp[B9,-List.getD_eq_getElem?_getD,-List.map_map,f65,p63]
def L2 (xs ys:List Bm) (i:Nat):Bool:=decide (¬xs.getD i []=ys.getD i [])
def Bnb (xs:List Bm):Nat→Nat→Int→Int
 |0,_,l=>l
 |n+1,i,l=>if l - (xs.getD i []).length<0 then -1 else Bnb xs n (i+1) (l - (xs.getD i []).length)
def left (xs:List Bm):Int:=if 1048576 - (xs.length:Int)<0 then -1 else(if Bnb xs xs.length 0 (1048576 - xs.length)<0 then -1 else Bnb xs xs.length 0 (1048576 - xs.length))
namespace fnExactListAt
end fnExactListAt
theorem Buw (H:Hp) (a b c:Int):ev R 32 [.d (.int .i64 a), .d (.int .i64 b), .d (.int .i64 c)] H=some (.d (.bool (decide (a≥b) &&decide (a≤c))),H):=by
 refine Bi (fn:=f32) rfl rfl ?_
 by_cases h1:a≥b<;>by_cases h2:a≤c<;>
 simp[evE,-List.getD_eq_getElem?_getD,-List.map_map,f32,h1,h2]
theorem Byt (H:Hp) (a b c:Int):ev R 40 [.d (.int .i64 a), .d (.int .i64 b), .d (.int .i64 c)] H=some (.d (.bool (decide (a≥b) &&decide (a≤c))),H):=by
 refine Bi (fn:=f40) rfl rfl ?_
 by_cases h1:a≥b<;>by_cases h2:a≤c<;>
 simp[evE,-List.getD_eq_getElem?_getD,-List.map_map,f40,h1,h2]
theorem Ll (a b c:Int):Be (ev R) 32 [.d (.int .i64 a), .d (.int .i64 b), .d (.int .i64 c)]=some (.d (.bool (decide (a≥b) &&decide (a≤c)))):=Bb fun H=>Buw H a b c
theorem Xp (a b c:Int):Be (ev R) 40 [.d (.int .i64 a), .d (.int .i64 b), .d (.int .i64 c)]=some (.d (.bool (decide (a≥b) &&decide (a≤c)))):=Bb fun H=>Byt H a b c
def bit (s:List UInt8) (i:Int):Int:=if i / 8≥s.length then 0 else((s.getD (i / 8).toNat 0).toNat:Int) / (2 ^ (7 - i % 8).toNat) % 2
def enZ:V:= .agg [.d (.str []), .d (.int .i64 0), .d (.int .i64 0), .d (.str []), .nils 1, .nils 2, .nils 2]
theorem Bux (H:Hp) (r:Nat) (xs:List V) (i:Nat) (hr:B6 H r=some (.row 0 7 xs)) (hd: ∀x∈xs,∃d,x= .d d) (hi:i<xs.length) (hx:xs.length≤1000000):
  ev R 44 [.slc r 0 0 xs.length, .d (.int .i64 i), .d (.int .i64 (i+1))] H=some (.slc r 0 0 (xs.length - 1),Bu H r (.row 0 7 (xs.take i++(xs.drop (i+1)++[enZ])))):=by
 have h1: ¬ (i:Int)=(i:Int)+1:=by omega
 have c1: (0:Int)≤(i:Int)+1:=by omega
 have c2: (i:Int)+1≤(xs.length:Int):=by omega
 have c3: (i:Int)≤(xs.length:Int):=by omega
 have c4:i≤xs.length:=by omega
 have c5:i+1≤xs.length:=by omega
 have c6: (i:Int)≤(i:Int)+1:=by omega
 have c7: ¬i=xs.length:=by omega
 have c8:xs.length - 1≤xs.length:=by omega
 have hm:i+(xs.length - (i+1))=xs.length - 1:=by omega
 have hs: ∀o,B6 (Bu H r o) r=some o:=fun o=>Cd _ (Dj hr)
 have hok: ∀n0,(xs.drop (i+1)).all (M7 n0 r)=true:=fun n0=>List.all_eq_true.2 fun x hx=>by
  obtain⟨d,rfl⟩:=hd x (List.mem_of_mem_drop hx)
  rfl
 have c9: ((xs.length - 1:Nat):Int)≤(xs.length:Int):=by omega
 have d1:xs.length - (xs.length - 1)=1:=by omega
 have d2: (xs.length:Int)≤(i:Int)+(((xs.length - (i+1):Nat):Int)+1):=by omega
 have d3:xs.length - 1+1≤i+(xs.length - (i+1)+1):=by omega
 have d4:xs.length≤i+(xs.length - (i+1)+1):=by omega
 have d5:xs.length≤xs.length - 1+1:=by omega
 have hrl:=Dj hr
 have fz: ∀o,Tp (Bc H) (Bu H r o) (.slc r 0 0 (xs.length - 1))=some (.slc r 0 0 (xs.length - 1)):=fun o=>by simp[Tp,hrl]
 have htk: ∀o,Ck (Bu H r o) (Bc H)=Bu H r o:=fun o=>by
  have:=Gp (Bu H r o)
  rwa[Bq] at this
 have l1:List.take (xs.length - 1) (List.take i xs++(List.drop (i+1) xs++List.drop (xs.length - 1) xs))=List.take i xs++List.drop (i+1) xs:=by
  rw[←List.append_assoc,List.take_append_of_le_length (by simp;omega),List.take_of_length_le (by simp;omega)]
 have l2:List.drop (xs.length - 1+1) (List.take i xs++(List.drop (i+1) xs++List.drop (xs.length - 1) xs))=[]:=List.drop_of_length_le (by simp;omega)
 refine Bi (fn:=f44) rfl rfl ?_
 simp(maxSteps:=1000000) [Ca,-List.getD_eq_getElem?_getD,-List.map_map,f44,hr,h1,hi,Yi,eq_true c1,eq_true c2,eq_true c3,eq_true c4,eq_true c5,eq_true c6,eq_false c7,eq_true c8,eq_true c9,hs,hm,hok,J1,d1,eq_true d2,eq_true d3,eq_true d4,eq_true d5,fz,htk,l1,l2,enZ]
def Gx:Bm→Bm→Bool
 | [],s=>decide (s=[])
 |c::p,[]=>if c=42 then Gx p [] else false
 |c::p,x::s=>if c=42 then Gx p (x::s) ||Gx (c::p) s else(decide (c=63) ||decide (c=x)) &&Gx p s
termination_by p s=>p.length+s.length
theorem Bca: ∀ (n:Nat) (p s:Bm),p.length+s.length≤n→p.length≤1000000→s.length≤1000000→Be (ev R) 30 [.d (.str p), .d (.str s)]=some (.d (.bool (Gx p s)))
 |n,[],s,h,hp,hs=>Bb fun H=>by
  refine Bi (fn:=f30) rfl rfl ?_
  cases s with
  |nil=>simp(maxSteps:=1000000) [Ca,-List.getD_eq_getElem?_getD,-List.map_map,f30,Gx]
  |cons x s=>simp(maxSteps:=1000000) [Ca,-List.getD_eq_getElem?_getD,-List.map_map,f30,Gx]
 |0,c::p,s,h,hp,hs=>by simp at h
 |n+1,c::p,[],h,hp,hs=>Bb fun H=>by
  refine Bi (fn:=f30) rfl rfl ?_
  have l0: (0:Int)< (p.length:Int)+1:=by omega
  have l1: (1:Int)≤(p.length:Int)+1:=by omega
  have l2: (0:Int)≤(p.length:Int)+1:=by omega
  have tp:p.take p.length=p:=List.take_length
  by_cases a:c=42
  ·subst a
   have ih:=Bca n p [] (by simp at h⊢;omega) (by simp at hp;omega) (by simp)
   rw[Gx,if_pos rfl]
   cases hm:Gx p [] with
   |false=>rw[hm] at ih;simp(maxSteps:=1000000) [Ca,-List.getD_eq_getElem?_getD,-List.map_map,f30,ih,l0,l1,l2,tp]
   |true=>rw[hm] at ih;simp(maxSteps:=1000000) [Ca,-List.getD_eq_getElem?_getD,-List.map_map,f30,ih,l0,l1,l2,tp]
  ·have a': ¬c.toNat=42:=fun h=>a (UInt8.toNat_inj.1 h)
   have a'': ¬ (c.toNat:Int)=42:=fun h=>a' (by omega)
   rw[Gx,if_neg a]
   simp(maxSteps:=1000000) [Ca,-List.getD_eq_getElem?_getD,-List.map_map,f30,l0,l1,l2,tp,eq_false a,eq_false a',eq_false a'']
 |n+1,c::p,x::s,h,hp,hs=>Bb fun H=>by
  refine Bi (fn:=f30) rfl rfl ?_
  have l0: (0:Int)< (p.length:Int)+1:=by omega
  have l1: (1:Int)≤(p.length:Int)+1:=by omega
  have l2: (0:Int)≤(p.length:Int)+1:=by omega
  have tp:p.take p.length=p:=List.take_length
  have m0: (0:Int)< (s.length:Int)+1:=by omega
  have m1: (1:Int)≤(s.length:Int)+1:=by omega
  have m2: (0:Int)≤(s.length:Int)+1:=by omega
  have ts:s.take s.length=s:=List.take_length
  simp only[List.length_cons] at h hp hs
  by_cases a:c=42
  ·subst a
   have ih:=Bca n p (x::s) (by simp only[List.length_cons];omega) (by omega) (by simp only[List.length_cons];omega)
   have ih2:=Bca n (42::p) s (by simp only[List.length_cons];omega) (by simp only[List.length_cons];omega) (by omega)
   rw[Gx,if_pos rfl]
   cases hm:Gx p (x::s) with
   |false=>rw[hm] at ih;simp(maxSteps:=1000000) [Ca,-List.getD_eq_getElem?_getD,-List.map_map,f30,ih,ih2,l0,l1,l2,tp,m0,m1,m2,ts]
   |true=>rw[hm] at ih;simp(maxSteps:=1000000) [Ca,-List.getD_eq_getElem?_getD,-List.map_map,f30,ih,l0,l1,l2,tp,m0,m1,m2,ts]
  ·have a': ¬c.toNat=42:=fun h=>a (UInt8.toNat_inj.1 h)
   have a'': ¬ (c.toNat:Int)=42:=fun h=>a' (by omega)
   have ih:=Bca n p s (by omega) (by omega) (by omega)
   rw[Gx,if_neg a]
   by_cases b:c=63
   ·subst b
    simp(maxSteps:=1000000) [Ca,-List.getD_eq_getElem?_getD,-List.map_map,f30,ih,l0,l1,l2,tp,m0,m1,m2,ts,eq_false a,eq_false a',eq_false a'']
   ·have b': ¬c.toNat=63:=fun h=>b (UInt8.toNat_inj.1 h)
    have b'': ¬ (c.toNat:Int)=63:=fun h=>b' (by omega)
    by_cases d:c=x
    ·subst d
     simp(maxSteps:=1000000) [Ca,-List.getD_eq_getElem?_getD,-List.map_map,f30,ih,l0,l1,l2,tp,m0,m1,m2,ts,eq_false a,eq_false a',eq_false a'',eq_false b,eq_false b',eq_false b'']
    ·have d': ¬c.toNat=x.toNat:=fun h=>d (UInt8.toNat_inj.1 h)
     have d'': ¬ (c.toNat:Int)=(x.toNat:Int):=fun h=>d' (by omega)
     simp(maxSteps:=1000000) [Ca,-List.getD_eq_getElem?_getD,-List.map_map,f30,l0,l1,l2,tp,m0,m1,m2,ts,eq_false a,eq_false a',eq_false a'',eq_false b,eq_false b',eq_false b'',eq_false d,eq_false d',eq_false d'']
theorem B06 (p s:Bm) (hp:p.length≤1000000) (hs:s.length≤1000000):Be (ev R) 30 [.d (.str p), .d (.str s)]=some (.d (.bool (Gx p s))):=Bca _ p s (Nat.le_refl _) hp hs
end Go.Proofs.YtjdmiodinhlchaaGreat.Code
