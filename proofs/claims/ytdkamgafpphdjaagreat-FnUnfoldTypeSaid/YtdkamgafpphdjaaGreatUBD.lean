/-
  Lemmas towards the law, 30: Read, InfP.
-/
import Derived.Test.YtdkamgafpphdjaaGreatUBB
set_option maxHeartbeats 1000000
set_option maxRecDepth 100000
namespace Go.Proofs.YtdkamgafpphdjaaGreat
open Go.RowKit
set_option linter.unusedVariables false
def q50(xs:List (List UInt8)):List Tr:=xs.filterMap prsV
theorem y166{xs:List (List UInt8)}{j:Nat}(h:j < xs.length):q50 (xs.drop j)=(match prsV xs[j] with|none=> [] |some t=> [t])++q50 (xs.drop (j+1)):=by
 unfold q50;rw[List.drop_eq_getElem_cons h,List.filterMap_cons];cases prsV xs[j] <;> rfl
theorem q136{xs:List (List UInt8)}{t:Tr}(h:t∈q50 xs):valid sigT t=true:=by
 unfold q50 at h;obtain⟨l,-,h2⟩:=List.mem_filterMap.1 h;exact(y159 h2).1
theorem q192:(Tryz.prog.info? 25).map (fun i=>(i.zero,i.size,i.bytes))=some (some (.agg #[.int .i64 0,.int .i64 0,.slice none 0 0]),3,40):=by kernel_rfl
theorem q157(xs:List (List UInt8))(b o cap:Nat)(w:World)(hb:b < w.heap.size)(hl:xs.length<=cap)(hc:cap<=maxLen)(hn:xs.length<=1000)(hsz: ∀x∈xs,x.length<=1000)
 (hN: ∀j (hj:j < xs.length),w.cell? ⟨b,o+j,none⟩=some (.string (ofL xs[j]))):
 Calls Tryz.prog 113 #[.slice (some ⟨b,o,none⟩) xs.length cap] w fun e w'=> ∃A c,e= .returned (.slice A (q50 xs).length c)/\(q50 xs).length<=c/\c<=maxLen/\j18 w.heap.size w' A (q50 xs)/\Ext w w':=by
 obtain⟨i0,hi,hz0,hz1,hz2⟩:=info_parts q192;have hcc:=hc;unfold maxLen at hcc;have HN:=hdq hN;have HSZ:=hdq hsz;obtain⟨N,hNx⟩: ∃N,xs.length=N:=⟨_,rfl⟩;rw[hNx] at hl hn⊢;have HNX:=hdq hNx;obtain⟨R,hR⟩: ∃R,q50 xs=R:=⟨_,rfl⟩;rw[hR];have HR:=hdq hR;have hx0:=(xr w).alloc (.cells #[] 25);have hb0:=heap_alloc_new w (.cells #[] 25);clear hN hsz hNx hR;go_enter Tryz.func113,Tryz.ntmps113;go_wp2_with fail;generalize hw0:w.alloc _=w0 at hx0 hb0⊢;clear hw0
 go_loopw [3,4] (fun vo i wr=> ∃(v:Value) (j:Nat) (ks:List Tr),v=vo/\j<=N/\i= .int .i64 j/\j20 (fun b=> b < w.heap.size) w wr 25 v ks/\ks.length<=j/\ks++q50 (xs.drop j)=R/\Ext w wr) (fun _ i _=> N -(intOf i).toNat)
 case atStart=> exact⟨_,0, [],rfl,Nat.zero_le _,rfl,j20.lit hb0 (Nat.le_refl _),Nat.le_refl _,by simpa using HR.out,hx0⟩
 case round=>
  obtain⟨v,j,ks,rfl,hj,rfl,hG,hkj,hjl,hx⟩:=hrel;have HJ:=hdq hjl;have hsw:=hx.size;clear hjl;by_cases hlt:j < N
  · have hjz:(j:Int) <(N:Int):=by omega
    have hjx:j < xs.length:=by rw[HNX.out];exact hlt
    have hst:=y166 hjx;have hcx:=hx.cell (HN.out j hjx);obtain⟨x,hxj⟩: ∃x,x=xs[j]:=⟨_,rfl⟩;have hxl:(ofL x).size<=1000000000:=by have:=HSZ.out _ (List.getElem_mem hjx);rw[y89,hxj];omega
    rw[<-hxj] at hst hcx;have HP:=hdq (fun W=> j112 (ofL x) W hxl);rw[q111] at HP;obtain⟨L,hL⟩: ∃L,prsV x=L:=⟨_,rfl⟩;rw[hL] at HP hst;have HST:=hdq hst;clear hst hL hxj hjx;go_wp2_with fail;refine(HP.out _).mono ?_;rintro e w3 ⟨u,rfl,hF,e3⟩;obtain⟨k1,n1,A1,l1,c1,rfl⟩:=hF.three;have e34:=(xr w3).alloc (.cells #[.int .i64 k1,.int .i64 n1,.slice A1 l1 c1] 25);have hb4:=heap_alloc_new w3 (.cells #[.int .i64 k1,.int .i64 n1,.slice A1 l1 c1] 25);have hx4:=(hx.trans e3).trans e34;have hs3:=e3.size;obtain⟨s0,s1,s2,-⟩:=own3 hb4;cases L with
    |none=>
     have hjl2:ks++q50 (xs.drop (j+1))=R:=by
      rw[<-HJ.out,HST.out];simp
     have HJ2:=hdq hjl2;have hG4:=(hG.ext e3).ext e34;clear hjl2 s0 s1 s2;go_wp2_with fail
     go_roundw
     case rel=> exact⟨_,j+1,ks,rfl,by omega,by go_num,hG4,by omega,HJ2.out,hx4⟩
     case measure=> simp[intOf];omega
    |some t=>
     have hjl2:(ks++ [t])++q50 (xs.drop (j+1))=R:=by
      rw[<-HJ.out,HST.out];simp
     have HJ2:=hdq hjl2;have hlt2: ∀r,v.ownBlock=some r->r < wr.heap.size:=by
      obtain⟨ys,q1,-⟩:=hG;exact fun r hr=>(q1.lt r hr).2
     have hT:InT ((w3.alloc (.cells #[.int .i64 k1,.int .i64 n1,.slice A1 l1 c1] 25)).alloc (.cells #[.int .i64 k1,.int .i64 n1,.slice A1 l1 c1] 25)) (fun b=> b <((w3.alloc (.cells #[.int .i64 k1,.int .i64 n1,.slice A1 l1 c1] 25)).alloc (.cells #[.int .i64 k1,.int .i64 n1,.slice A1 l1 c1] 25)).heap.size/\v.ownBlock≠some b/\ ¬b < w.heap.size) t (.agg #[.int .i64 k1,.int .i64 n1,.slice A1 l1 c1]):=
      InT.mono (fun b hb=>⟨by have:=hb.2;simp;omega,fun he=> by have:=hlt2 b he;have:=hb.1;omega,by have:=hb.1;omega⟩) (fun b hb=>(e34.alloc (.cells #[.int .i64 k1,.int .i64 n1,.slice A1 l1 c1] 25)).heap b hb.2) hF
     have hG5:=(hG.ext e3).ext (e34.alloc (.cells #[.int .i64 k1,.int .i64 n1,.slice A1 l1 c1] 25));have hb5:((w3.alloc (.cells #[.int .i64 k1,.int .i64 n1,.slice A1 l1 c1] 25)).alloc (.cells #[.int .i64 k1,.int .i64 n1,.slice A1 l1 c1] 25)).heap[w3.heap.size+1]? =some (.cells #[.int .i64 k1,.int .i64 n1,.slice A1 l1 c1] 25 (0,0)):=by simpa using heap_alloc_new (w3.alloc (.cells #[.int .i64 k1,.int .i64 n1,.slice A1 l1 c1] 25)) (.cells #[.int .i64 k1,.int .i64 n1,.slice A1 l1 c1] 25)
     have hx5:=hx4.alloc (.cells #[.int .i64 k1,.int .i64 n1,.slice A1 l1 c1] 25);have HLT:=hdq hlt2;clear hjl2 hlt2 hF hb4;go_wp2_with (at_builtin;refine q37 _ rfl (.tmp 23) (.tmp 25) 23 rfl 25 i0 _ Tryz.underlying23 hi hz0 hz1 hz2 rfl rfl hG5 (by simp;omega) hT rfl hb5 (by omega) ?_ (fun b hb=> hb))
     intro v' w6 hG6 hB6;have hx6:Ext w w6:=Below.trans hx5 hB6;go_wp2_with fail
     go_roundw
     case rel=> exact⟨_,j+1,ks++ [t],rfl,by omega,by go_num,hG6,by simp;omega,HJ2.out,hx6⟩
     case measure=> simp[intOf];omega
  · have hjl2:ks=R:=by
     rw[<-HJ.out,List.drop_of_length_le (by rw[HNX.out];omega)];simp[q50]
    obtain⟨A,c,rfl,q1,q2,hK,-⟩:=hG.lies (fun b hb=> hb);have hK2:j18 w.heap.size wr A ks:=InK.mono (fun b hb=>⟨by have:=hb.2;omega,hb.1⟩) (fun _ _=> rfl) hK;have HKR:=hdq hjl2;clear hjl2;go_wp2_with fail;go_ret;exact⟨A,c,by rw[<-HKR.out];rfl,by rw[<-HKR.out];exact q1,q2,by rw[<-HKR.out];exact hK2,hx⟩
abbrev An:=Option (Tr×Int)
def thn(x:An)(f:Tr->An):An:=match x with
 |none=> none
 |some (s,c)=> if c=0 then f s else some (y13,c)
def mkV(t:Tr):Tr×Int:=if valid sigT t=true then(t,0) else(y13,2)
def cvtV(a b:Tr):Int:=if y66 a b 200=1 then 0 else if y66 a b 200=2 then 1 else 2
def shpV(t:Tr)(kind:Int):Tr×Int:=if(hnfV t 200).2≠0 then(y13,2) else if(hnfV t 200).1.kind≠kind then(y13,1) else((hnfV t 200).1,0)
def frmV(x:An)(kind:Int):An:=thn x fun s=> some (shpV s kind)
def chkV(x:An)(want:Tr)(y:An):An:=thn x fun s=> if cvtV s want=0 then y else some (y13,cvtV s want)
def natT:Tr:= .mk 6 0 []
def srtT(n:Int):Tr:= .mk 2 n []
def varT(n:Int):Tr:= .mk 1 n []
def stpT(p:Tr):Tr:= .mk 3 0 [natT,.mk 3 0 [.mk 5 0 [shfT 1 p 0,varT 0],.mk 5 0 [shfT 2 p 0,.mk 8 0 [varT 1]]]]
def famV(x:An)(T:Tr)(y:An):An:=thn (frmV x 3) fun s=> if cvtV (kd s.kids 0) T=0 then thn (some (shpV (kd s.kids 1) 2)) fun _=> y else some (y13,cvtV (kd s.kids 0) T)
def arrV(ty:Nat->An):An:=thn (frmV (ty 0) 2) fun a=> thn (frmV (ty 1) 2) fun b=> some (srtT (max a.num b.num),0)
def lamV(inf:Tr->An)(ty:Nat->An)(A:Tr):An:=thn (frmV (ty 0) 2) fun _=> thn (ty 1) fun b=> thn (some (mkV (.mk 3 0 [A,b]))) fun out=> thn (inf out) fun _=> some (out,0)
def appV(ty:Nat->An)(a:Tr):An:=thn (frmV (ty 0) 3) fun s=> chkV (ty 1) (kd s.kids 0) (some (mkV (sbsT a (kd s.kids 1) 0 0)))
def elmV(ty:Nat->An)(p a:Tr):An:=famV (ty 0) natT (thn (some (mkV (.mk 5 0 [p,.mk 7 0 []]))) fun w=> chkV (ty 1) w (thn (some (mkV (stpT p))) fun w2=> chkV (ty 2) w2 (chkV (ty 3) natT (some (mkV (.mk 5 0 [p,a]))))))
def idnV(ty:Nat->An)(T:Tr):An:=thn (frmV (ty 0) 2) fun s=> chkV (ty 1) T (chkV (ty 2) T (some (srtT s.num,0)))
def rflV(inf:Tr->An)(ty:Nat->An)(a:Tr):An:=thn (ty 0) fun s=> thn (frmV (inf s) 2) fun _=> some (mkV (.mk 10 0 [s,a,a]))
def movV(ty:Nat->An)(p:Tr):An:=thn (frmV (ty 1) 10) fun e=> famV (ty 0) (kd e.kids 0) (thn (some (mkV (.mk 5 0 [p,kd e.kids 1]))) fun w=> chkV (ty 2) w (some (mkV (.mk 5 0 [p,kd e.kids 2]))))
def parV(ty:Nat->An)(T a:Tr):An:=thn (frmV (ty 0) 2) fun _=> thn (some (shpV T 13)) fun s=> chkV (ty 1) (kd s.kids 0) (thn (some (mkV (sbsT a (kd s.kids 1) 0 0))) fun w=> chkV (ty 2) w (some (T,0)))
def prtV(ty:Nat->An)(k:Int)(a:Tr):An:=thn (frmV (ty 0) 13) fun s=> if k=15 then some (kd s.kids 0,0) else some (mkV (sbsT (.mk 15 0 [a]) (kd s.kids 1) 0 0))
def lkV(G:List Tr)(n:Int):Tr×Int:=if(G.length:Int)<=n then(y13,1) else mkV (shfT (n+1) (kd G (G.length - 1 - n.toNat)) 0)
def judV(G:List Tr)(inf:Tr->An)(ty:Nat->An)(k n:Int)(ks:List Tr):An:=
 if k=1 then some (lkV G n)
 else if k=2 then some (if n=3 then(y13,1) else(srtT (n+1),0))
 else if k=6 then some (srtT 0,0)
 else if k=7 then some (natT,0)
 else if k=8 then chkV (ty 0) natT (some (natT,0))
 else if k=3\/k=13 then arrV ty
 else if k=4 then lamV inf ty (kd ks 0)
 else if k=5 then appV ty (kd ks 1)
 else if k=9 then elmV ty (kd ks 0) (kd ks 3)
 else if k=10 then idnV ty (kd ks 0)
 else if k=11 then rflV inf ty (kd ks 0)
 else if k=12 then movV ty (kd ks 0)
 else if k=14 then parV ty (kd ks 0) (kd ks 1)
 else prtV ty k (kd ks 0)
def tyV(inf:List Tr->Tr->An)(G:List Tr)(k:Int)(ks:List Tr)(i:Nat):An:=
 if und k i=0 then inf G (kd ks i) else if 20<=G.length then some (y13,2) else inf (G++ [kd ks 0]) (kd ks i)
def infV:Nat->List Tr->Tr->An
 |0,_,_=> none
 |f+1,G,.mk k n ks=> judV G (infV f G) (tyV (infV f) G k ks) k n ks
theorem y29{x:An}{f:Tr->An}{r:Tr×Int}(h:thn x f=some r):(∃s,x=some (s,0)/\f s=some r)\/ ∃s c,x=some (s,c)/\c≠0/\r=(y13,c):=by
 unfold thn at h;cases x with
 |none=> cases h
 |some y=>
  obtain⟨s,c⟩:=y;simp only at h
  split at h
  · rename_i hc
    subst hc;exact .inl ⟨s,rfl,h⟩
  · rename_i hc
    exact .inr ⟨s,c,rfl,hc,by simpa using h.symm⟩
theorem j15{x:An}{f:Tr->An}{u:Tr}(h:thn x f=some (u,0)): ∃s,x=some (s,0)/\f s=some (u,0):=by
 rcases y29 h with h|⟨s,c,-,hc,h⟩
 · exact h
 · simp only[Prod.mk.injEq] at h
   exact absurd h.2.symm hc
theorem y65{y:Tr×Int}{f:Tr->An}{u:Tr}(h:thn (some y) f=some (u,0)):y.2=0/\f y.1=some (u,0):=by
 obtain⟨s,h1,h2⟩:=j15 h;simp only[Option.some.injEq] at h1;subst h1;exact⟨rfl,h2⟩
theorem y86{t:Tr}(h:(mkV t).2=0):valid sigT t=true/\(mkV t).1=t:=by
 unfold mkV at h⊢
 split at h
 · rename_i hv
   exact⟨hv,by rw[if_pos hv]⟩
 · simp at h
theorem j27{t u:Tr}(h:some (mkV t)=some (u,(0:Int))):valid sigT t=true/\u=t:=by
 have h1:mkV t=(u,0):=by simpa using h
 obtain⟨h2,h3⟩:=y86 (t:=t) (by rw[h1]);rw[h1] at h3;exact⟨h2,h3⟩
theorem j96{t:Tr}{kind:Int}(h:(shpV t kind).2=0):hnfV t 200=((shpV t kind).1,0)/\(shpV t kind).1.kind=kind:=by
 unfold shpV at h⊢
 split at h
 · simp at h
 · rename_i h1
   split at h
   · simp at h
   · rename_i h2
     rw[if_neg h1,if_neg h2];exact⟨by rw[<-show(hnfV t 200).2=0 by simpa using h1],by simpa using h2⟩
theorem j46{x:An}{kind:Int}{s:Tr}(h:frmV x kind=some (s,0)): ∃u,x=some (u,0)/\hnfV u 200=(s,0)/\s.kind=kind:=by
 obtain⟨u,h1,h2⟩:=j15 h;have h3:shpV u kind=(s,0):=by simpa using h2
 obtain⟨h4,h5⟩:=j96 (t:=u) (kind:=kind) (by rw[h3]);rw[h3] at h4 h5;exact⟨u,h1,h4,h5⟩
theorem y34{x y:An}{want u:Tr}(h:chkV x want y=some (u,0)): ∃s,x=some (s,0)/\cvtV s want=0/\y=some (u,0):=by
 obtain⟨s,h1,h2⟩:=j15 h
 split at h2
 · rename_i hc
   exact⟨s,h1,hc,h2⟩
 · rename_i hc
   simp only[Option.some.injEq,Prod.mk.injEq] at h2;exact absurd h2.2 hc
theorem j137{x y:An}{T u:Tr}(h:famV x T y=some (u,0)): ∃F s c,x=some (F,0)/\hnfV F 200=(s,0)/\s.kind=3/\cvtV (kd s.kids 0) T=0/\hnfV (kd s.kids 1) 200=(c,0)/\c.kind=2/\y=some (u,0):=by
 obtain⟨s,h1,h2⟩:=j15 h;obtain⟨F,h3,h4,h5⟩:=j46 h1
 split at h2
 · rename_i hc
   obtain⟨h6,h7⟩:=y65 h2;obtain⟨h8,h9⟩:=j96 h6;exact⟨F,s,_,h3,h4,h5,hc,h8,h9,h7⟩
 · rename_i hc
   simp only[Option.some.injEq,Prod.mk.injEq] at h2;exact absurd h2.2 hc
theorem cvtV_ok{a b:Tr}(h:cvtV a b=0):y66 a b 200=1:=by
 unfold cvtV at h
 split at h
 · assumption
 · split at h <;> simp at h
theorem q56{t x:Tr}(h:valid sigT t=true)(hm:x∈t.kids):valid sigT x=true:=by
 obtain⟨k,n,ks⟩:=t;obtain⟨h1,h2⟩:=j11 h;have h3:=(y12 h1).2.2.2 x hm;unfold valid;rw[q61 h3 (by omega),Bool.true_and,decide_eq_true_eq];have:=y14 hm;simp only[cnt] at h2;simp only[Tr.kids] at this;omega
theorem y38{t:Tr}(h:valid sigT t=true){i:Nat}(hi:i < t.kids.length):valid sigT (kd t.kids i)=true:=q56 h (j74 hi)
end Go.Proofs.YtdkamgafpphdjaaGreat
