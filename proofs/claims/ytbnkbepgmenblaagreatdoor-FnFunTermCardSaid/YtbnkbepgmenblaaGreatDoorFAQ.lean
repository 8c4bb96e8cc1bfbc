/-
  Lemmas towards the law, 17: MEnc, Parse3, TxtP, Keep, Plc.
-/
import Derived.Test.YtbnkbepgmenblaaGreatDoorFAA
import Derived.Test.YtbnkbepgmenblaaGreatDoorFAN
import Derived.Test.YtbnkbepgmenblaaGreatDoorFAO
import Derived.Test.YtbnkbepgmenblaaGreatDoorFAP
set_option linter.unusedVariables false
set_option maxHeartbeats 4000000
set_option maxRecDepth 100000
namespace Go.Proofs.YtbnkbepgmenblaaGreatDoor
def enc:M.Tm->Tr
 | .var n=> .mk 1 n []
 | .sort n=> .mk 2 n []
 | .pi A B=> .mk 3 0 [enc A,enc B]
 | .lam A t=> .mk 4 0 [enc A,enc t]
 | .app f a=> .mk 5 0 [enc f,enc a]
 | .nat=> .mk 6 0 []
 | .zero=> .mk 7 0 []
 | .succ a=> .mk 8 0 [enc a]
 | .elim p z s a=> .mk 9 0 [enc p,enc z,enc s,enc a]
 | .id T a b=> .mk 10 0 [enc T,enc a,enc b]
 | .refl a=> .mk 11 0 [enc a]
 | .move p e a=> .mk 12 0 [enc p,enc e,enc a]
 | .sg A B=> .mk 13 0 [enc A,enc B]
 | .pair T a b=> .mk 14 0 [enc T,enc a,enc b]
 | .fst a=> .mk 15 0 [enc a]
 | .snd a=> .mk 16 0 [enc a]
def shr(y c n:Nat):Nat:=if c<=n then n+y else n
theorem q168(y c:Nat):M.Tm.upr (shr y c)=shr y (c+1):=by
 funext n
 cases n with
 |zero=> simp[M.Tm.upr,shr]
 |succ n=>
  show shr y c n+1=_
  unfold shr;by_cases h:c<=n
  · rw[if_pos h,if_pos (by omega)];omega
  · rw[if_neg h,if_neg (by omega)]
theorem j112(y:Nat): ∀(t:M.Tm) (c:Nat),shfT (y:Int) (enc t) (c:Int)=enc (t.ren (shr y c)):=by
 have u0: ∀(k:Int) (c:Nat),(c:Int)+und k 0=(c:Int):=fun k c=> by simp[und]
 intro t
 induction t with
 |var n=>
  intro c;simp only[enc,M.Tm.ren,shfT,q20,shr];by_cases h:c<=n
  · rw[if_pos ⟨trivial,by omega⟩,if_pos h];congr 1
  · rw[if_neg (fun e=> h (by omega)),if_neg h]
 |pi A B i1 i2=>
  intro c;simp only[enc,M.Tm.ren,shfT,q20,u0,i1,q168];rw[show(c:Int)+und 3 (0+1)=((c+1:Nat):Int) from rfl,i2]
  rfl
 |lam A B i1 i2=>
  intro c;simp only[enc,M.Tm.ren,shfT,q20,u0,i1,q168];rw[show(c:Int)+und 4 (0+1)=((c+1:Nat):Int) from rfl,i2]
  rfl
 |sg A B i1 i2=>
  intro c;simp only[enc,M.Tm.ren,shfT,q20,u0,i1,q168];rw[show(c:Int)+und 13 (0+1)=((c+1:Nat):Int) from rfl,i2]
  rfl
 |_=> intro c;simp_all [enc,M.Tm.ren,shfT,q20,und]
def sbk(u:M.Tm)(k n:Nat):M.Tm:=if n=k then u.ren (fun i=> i+k) else if k < n then .var (n - 1) else .var n
theorem j206(u:M.Tm):sbk u 0=M.Tm.cns u M.Tm.var:=by
 funext n
 cases n with
 |zero=> simp[sbk,M.Tm.cns,M.Tm.ren_id]
 |succ n=> simp[sbk,M.Tm.cns]
theorem y167(u:M.Tm)(k:Nat):M.Tm.ups (sbk u k)=sbk u (k+1):=by
 funext n
 cases n with
 |zero=> simp[M.Tm.ups,sbk]
 |succ n=>
  show M.Tm.wk (sbk u k n)=sbk u (k+1) (n+1)
  by_cases h:n=k
  · have e1:sbk u k n=u.ren (fun i=> i+k):=if_pos h
    have e2:sbk u (k+1) (n+1)=u.ren (fun i=> i+(k+1)):=if_pos (by omega);rw[e1,e2,M.Tm.wk,M.Tm.ren_ren];rfl
  · by_cases h2:k < n
    · have e1:sbk u k n= .var (n - 1):=by unfold sbk;rw[if_neg h,if_pos h2]
      have e2:sbk u (k+1) (n+1)= .var n:=by unfold sbk;rw[if_neg (by omega),if_pos (by omega)];rfl
      rw[e1,e2]
      show M.Tm.var (n - 1+1)=_
      congr 1
      omega
    · have e1:sbk u k n= .var n:=by unfold sbk;rw[if_neg h,if_neg h2]
      have e2:sbk u (k+1) (n+1)= .var (n+1):=by unfold sbk;rw[if_neg (by omega),if_neg (by omega)]
      rw[e1,e2];rfl
theorem q113(k:Nat):shr k 0=fun i=> i+k:=by funext i;simp[shr]
theorem enc_sbs(u:M.Tm): ∀(t:M.Tm) (k:Nat),sbsT (enc u) (enc t) (k:Int) (k:Int)=enc (t.sub (sbk u k)):=by
 have u0: ∀(k:Int) (c:Nat),(c:Int)+und k 0=(c:Int):=fun k c=> by simp[und]
 intro t
 induction t with
 |var n=>
  intro k;simp only[enc,M.Tm.sub,sbsT,y21,sbk];by_cases h:n=k
  · rw[if_pos ⟨trivial,by omega⟩,if_pos h,<-q113]
    exact j112 k u 0
  · rw[if_neg (fun e=> h (by omega)),if_neg h]
    by_cases h2:k < n
    · rw[if_pos ⟨trivial,by omega⟩,if_pos h2]
      simp only[enc]
      congr 1
      omega
    · rw[if_neg (fun e=> h2 (by omega)),if_neg h2];rfl
 |pi A B i1 i2=>
  intro c;simp only[enc,M.Tm.sub,sbsT,y21,u0,i1,y167];rw[show(c:Int)+und 3 (0+1)=((c+1:Nat):Int) from rfl,i2]
  rfl
 |lam A B i1 i2=>
  intro c;simp only[enc,M.Tm.sub,sbsT,y21,u0,i1,y167];rw[show(c:Int)+und 4 (0+1)=((c+1:Nat):Int) from rfl,i2]
  rfl
 |sg A B i1 i2=>
  intro c;simp only[enc,M.Tm.sub,sbsT,y21,u0,i1,y167];rw[show(c:Int)+und 13 (0+1)=((c+1:Nat):Int) from rfl,i2]
  rfl
 |_=> intro c;simp_all [enc,M.Tm.sub,sbsT,y21,und]
theorem j60(t u:M.Tm):sbsT (enc u) (enc t) 0 0=enc (t.inst u):=by
 have:=enc_sbs u t 0;rw[j206] at this;exact this
theorem q193: ∀{t u:M.Tm},enc t=enc u->t=u:=by
 intro t
 induction t <;> intro u h <;> cases u <;> simp[enc] at h⊢ <;> first|omega|(obtain⟨h1,h2,h3,h4⟩:=h;refine⟨?_, ?_, ?_, ?_⟩ <;> solve_by_elim) |(obtain⟨h1,h2,h3⟩:=h;refine⟨?_, ?_, ?_⟩ <;> solve_by_elim) |(obtain⟨h1,h2⟩:=h;refine⟨?_, ?_⟩ <;> solve_by_elim) |solve_by_elim
theorem enc_par{t t':M.Tm}(h:M.Par t t'):Par (enc t) (enc t'):=by
 induction h with
 |var n=> exact Par.refl _
 |sort n=> exact Par.refl _
 |nat=> exact Par.refl _
 |zero=> exact Par.refl _
 | @beta A b b' a a' h1 h2 i1 i2=>
  have h:=Par.red (k:=5) (n:=0) (ks:= [enc (.lam A b),enc a]) (by simp[rdx,kd,Tr.kind,enc]) (.cons (.node (k:=4) (n:=0) (.cons (Par.refl (enc A)) (.cons i1 .nil))) (.cons i2 .nil));rw[<-j60];exact h
 | @ez p z z' s h i=> exact Par.red (k:=9) (n:=0) (ks:= [enc p,enc z,enc s,enc .zero]) (by simp[rdx,kd,Tr.kind,enc]) (.cons (Par.refl _) (.cons i (.cons (Par.refl _) (.cons (Par.refl _) .nil))))
 | @es p p' z z' s s' a a' h1 h2 h3 h4 i1 i2 i3 i4=> exact Par.red (k:=9) (n:=0) (ks:= [enc p,enc z,enc s,enc (.succ a)]) (by simp[rdx,kd,Tr.kind,enc]) (.cons i1 (.cons i2 (.cons i3 (.cons (.node (k:=8) (n:=0) (.cons i4 .nil)) .nil))))
 | @mr p b a a' h i=> exact Par.red (k:=12) (n:=0) (ks:= [enc p,enc (.refl b),enc a]) (by simp[rdx,kd,Tr.kind,enc]) (.cons (Par.refl _) (.cons (Par.refl _) (.cons i .nil)))
 | @fp T a a' b h i=> exact Par.red (k:=15) (n:=0) (ks:= [enc (.pair T a b)]) (by simp[rdx,kd,Tr.kind,enc]) (.cons (.node (k:=14) (n:=0) (.cons (Par.refl _) (.cons i (.cons (Par.refl _) .nil)))) .nil)
 | @sp T a b b' h i=> exact Par.red (k:=16) (n:=0) (ks:= [enc (.pair T a b)]) (by simp[rdx,kd,Tr.kind,enc]) (.cons (.node (k:=14) (n:=0) (.cons (Par.refl _) (.cons (Par.refl _) (.cons i .nil)))) .nil)
 |elim h1 h2 h3 h4 i1 i2 i3 i4=> exact .node (.cons i1 (.cons i2 (.cons i3 (.cons i4 .nil))))
 |pi h1 h2 i1 i2=> exact .node (.cons i1 (.cons i2 .nil))
 |lam h1 h2 i1 i2=> exact .node (.cons i1 (.cons i2 .nil))
 |app h1 h2 i1 i2=> exact .node (.cons i1 (.cons i2 .nil))
 |sg h1 h2 i1 i2=> exact .node (.cons i1 (.cons i2 .nil))
 |id h1 h2 h3 i1 i2 i3=> exact .node (.cons i1 (.cons i2 (.cons i3 .nil)))
 |move h1 h2 h3 i1 i2 i3=> exact .node (.cons i1 (.cons i2 (.cons i3 .nil)))
 |pair h1 h2 h3 i1 i2 i3=> exact .node (.cons i1 (.cons i2 (.cons i3 .nil)))
 |succ h i=> exact .node (.cons i .nil)
 |refl h i=> exact .node (.cons i .nil)
 |fst h i=> exact .node (.cons i .nil)
 |snd h i=> exact .node (.cons i .nil)
theorem y190{t t':M.Tm}(h:M.Red t t'):Reds (enc t) (enc t'):=by
 induction h with
 |refl=> exact .refl _
 |step h1 _ ih=> exact(Reds.one (enc_par h1)).trans ih
theorem par_enc: ∀{t:M.Tm} {t':Tr},Par (enc t) t'-> ∃m,t'=enc m/\M.Par t m:=by
 have no: ∀{k:Int} {ks:List Tr},rdx k ks≠0->k=5\/k=9\/k=12\/k=15\/k=16:=by
  intro k ks h;by_cases h5:k=5
  · exact .inl h5
  by_cases h9:k=9
  · exact .inr (.inl h9)
  by_cases O9:k=12
  · exact .inr (.inr (.inl O9))
  by_cases T5:k=15
  · exact .inr (.inr (.inr (.inl T5)))
  by_cases C9:k=16
  · exact .inr (.inr (.inr (.inr C9)))
  exact absurd (q88 h5 h9 O9 T5 C9) h
 intro t
 induction t with
 |var n=> intro t' h;cases h with
  |node h=> cases h;exact⟨.var n,rfl,.var n⟩
  |red h=> exact absurd (no h) (by decide)
 |sort n=> intro t' h;cases h with
  |node h=> cases h;exact⟨.sort n,rfl,.sort n⟩
  |red h=> exact absurd (no h) (by decide)
 |nat=> intro t' h;cases h with
  |node h=> cases h;exact⟨.nat,rfl,.nat⟩
  |red h=> exact absurd (no h) (by decide)
 |zero=> intro t' h;cases h with
  |node h=> cases h;exact⟨.zero,rfl,.zero⟩
  |red h=> exact absurd (no h) (by decide)
 |pi A B i1 i2=> intro t' h;cases h with
  |node h=>
   cases h with
   |cons h1 h=>
   cases h with
   |cons h2 h=>
   cases h
   obtain⟨a,rfl,k1⟩:=i1 h1;obtain⟨b,rfl,k2⟩:=i2 h2;exact⟨.pi a b,rfl,.pi k1 k2⟩
  |red h=> exact absurd (no h) (by decide)
 |lam A B i1 i2=> intro t' h;cases h with
  |node h=>
   cases h with
   |cons h1 h=>
   cases h with
   |cons h2 h=>
   cases h
   obtain⟨a,rfl,k1⟩:=i1 h1;obtain⟨b,rfl,k2⟩:=i2 h2;exact⟨.lam a b,rfl,.lam k1 k2⟩
  |red h=> exact absurd (no h) (by decide)
 |sg A B i1 i2=> intro t' h;cases h with
  |node h=>
   cases h with
   |cons h1 h=>
   cases h with
   |cons h2 h=>
   cases h
   obtain⟨a,rfl,k1⟩:=i1 h1;obtain⟨b,rfl,k2⟩:=i2 h2;exact⟨.sg a b,rfl,.sg k1 k2⟩
  |red h=> exact absurd (no h) (by decide)
 |id A B D i1 i2 i3=> intro t' h;cases h with
  |node h=>
   cases h with
   |cons h1 h=>
   cases h with
   |cons h2 h=>
   cases h with
   |cons h3 h=>
   cases h
   obtain⟨a,rfl,k1⟩:=i1 h1;obtain⟨b,rfl,k2⟩:=i2 h2;obtain⟨c,rfl,k3⟩:=i3 h3;exact⟨.id a b c,rfl,.id k1 k2 k3⟩
  |red h=> exact absurd (no h) (by decide)
 |pair A B D i1 i2 i3=> intro t' h;cases h with
  |node h=>
   cases h with
   |cons h1 h=>
   cases h with
   |cons h2 h=>
   cases h with
   |cons h3 h=>
   cases h
   obtain⟨a,rfl,k1⟩:=i1 h1;obtain⟨b,rfl,k2⟩:=i2 h2;obtain⟨c,rfl,k3⟩:=i3 h3;exact⟨.pair a b c,rfl,.pair k1 k2 k3⟩
  |red h=> exact absurd (no h) (by decide)
 |succ A i1=> intro t' h;cases h with
  |node h=>
   cases h with
   |cons h1 h=>
   cases h
   obtain⟨a,rfl,k1⟩:=i1 h1;exact⟨.succ a,rfl,.succ k1⟩
  |red h=> exact absurd (no h) (by decide)
 |refl A i1=> intro t' h;cases h with
  |node h=>
   cases h with
   |cons h1 h=>
   cases h
   obtain⟨a,rfl,k1⟩:=i1 h1;exact⟨.refl a,rfl,.refl k1⟩
  |red h=> exact absurd (no h) (by decide)
 |app A B i1 i2=> intro t' h;cases h with
  |node h=>
   cases h with
   |cons h1 h=>
   cases h with
   |cons h2 h=>
   cases h
   obtain⟨a,rfl,k1⟩:=i1 h1;obtain⟨b,rfl,k2⟩:=i2 h2;exact⟨.app a b,rfl,.app k1 k2⟩
  |red hr h=>
   cases h with
   |cons h1 h=>
   cases h with
   |cons h2 h=>
   cases h
   obtain⟨a,rfl,k1⟩:=i1 h1;obtain⟨b,rfl,k2⟩:=i2 h2;cases A <;> simp[rdx,kd,Tr.kind,enc] at hr
   cases k1 with
   |lam l1 l2=> exact⟨_,by show sbsT (enc b) (enc _) 0 0=_;exact j60 _ _,.beta l2 k2⟩
 |fst A i1=> intro t' h;cases h with
  |node h=>
   cases h with
   |cons h1 h=>
   cases h
   obtain⟨a,rfl,k1⟩:=i1 h1;exact⟨.fst a,rfl,.fst k1⟩
  |red hr h=>
   cases h with
   |cons h1 h=>
   cases h
   obtain⟨a,rfl,k1⟩:=i1 h1;cases A <;> simp[rdx,kd,Tr.kind,enc] at hr
   cases k1 with
   |pair l1 l2 l3=> exact⟨_,rfl,.fp l2⟩
 |snd A i1=> intro t' h;cases h with
  |node h=>
   cases h with
   |cons h1 h=>
   cases h
   obtain⟨a,rfl,k1⟩:=i1 h1;exact⟨.snd a,rfl,.snd k1⟩
  |red hr h=>
   cases h with
   |cons h1 h=>
   cases h
   obtain⟨a,rfl,k1⟩:=i1 h1;cases A <;> simp[rdx,kd,Tr.kind,enc] at hr
   cases k1 with
   |pair l1 l2 l3=> exact⟨_,rfl,.sp l3⟩
 |move A B D i1 i2 i3=> intro t' h;cases h with
  |node h=>
   cases h with
   |cons h1 h=>
   cases h with
   |cons h2 h=>
   cases h with
   |cons h3 h=>
   cases h
   obtain⟨a,rfl,k1⟩:=i1 h1;obtain⟨b,rfl,k2⟩:=i2 h2;obtain⟨c,rfl,k3⟩:=i3 h3;exact⟨.move a b c,rfl,.move k1 k2 k3⟩
  |red hr h=>
   cases h with
   |cons h1 h=>
   cases h with
   |cons h2 h=>
   cases h with
   |cons h3 h=>
   cases h
   obtain⟨c,rfl,k3⟩:=i3 h3;cases B <;> simp[rdx,kd,Tr.kind,enc] at hr
   exact⟨c,rfl,.mr k3⟩
 |elim A B D E i1 i2 i3 i4=> intro t' h;cases h with
  |node h=>
   cases h with
   |cons h1 h=>
   cases h with
   |cons h2 h=>
   cases h with
   |cons h3 h=>
   cases h with
   |cons h4 h=>
   cases h
   obtain⟨a,rfl,k1⟩:=i1 h1;obtain⟨b,rfl,k2⟩:=i2 h2;obtain⟨c,rfl,k3⟩:=i3 h3;obtain⟨d,rfl,k4⟩:=i4 h4;exact⟨.elim a b c d,rfl,.elim k1 k2 k3 k4⟩
  |red hr h=>
   cases h with
   |cons h1 h=>
   cases h with
   |cons h2 h=>
   cases h with
   |cons h3 h=>
   cases h with
   |cons h4 h=>
   cases h
   obtain⟨a,rfl,k1⟩:=i1 h1;obtain⟨b,rfl,k2⟩:=i2 h2;obtain⟨c,rfl,k3⟩:=i3 h3;obtain⟨d,rfl,k4⟩:=i4 h4;cases E <;> simp[rdx,kd,Tr.kind,enc] at hr
   · cases k4
     exact⟨b,rfl,.ez k2⟩
   · cases k4 with
     |succ k5=> exact⟨_,rfl,.es k1 k2 k3 k5⟩
theorem j189{t' u:Tr}(h:Reds u t'): ∀{t:M.Tm},u=enc t-> ∃m,t'=enc m/\M.Red t m:=by
 induction h with
 |refl=> intro t e;exact⟨t,e,.refl t⟩
 |step h1 h2 ih=>
  intro t e;obtain⟨m,e1,r1⟩:=ih e;subst e1;obtain⟨m2,e2,r2⟩:=par_enc h2;exact⟨m2,e2,r1.trans (.one r2)⟩
end Go.Proofs.YtbnkbepgmenblaaGreatDoor
namespace Go.Proofs.YtbnkbepgmenblaaGreatDoor
open Go.RowKit
def SerQ(B:Nat)(w:World)(size:Nat)(o:Option (List Tr×Nat))(e:Ending)(w':World):Prop:=
 ∃(ts:List Tr) (A:Option Addr) (cap:Nat) (nx:Int),e= .returned (.tuple #[.slice A ts.length cap,.int .i64 nx])/\ts.length<=cap/\cap<=maxLen/\j35 B w' A ts/\Ext w w'/\(∀x,o=some x->ts=x.1/\nx=x.2/\x.2<=size)/\(o=none->nx= -1)
theorem y182:(Tryz.prog.info? 26).map (fun i=>(i.zero,i.size,i.bytes))=some (some (.agg #[.int .i64 0,.int .i64 0,.slice none 0 0]),3,40):=by kernel_rfl
theorem y196{p:Nat->Option (Tr×Nat)}{l:List UInt8}{last:UInt8}{m a b:Nat}{t:Tr}(h:p a=some (t,b)):ser p l last (m+1) a=if l[b]? =some (if m=0 then last else 44) then(ser p l last m (b+1)).map (fun x=>(t::x.1,x.2)) else none:=by
 conv=> lhs;unfold ser
 rw[h]
theorem j208{p:Nat->Option (Tr×Nat)}{l:List UInt8}{last:UInt8}{m a:Nat}(h:p a=none):ser p l last (m+1) a=none:=by
 conv=> lhs;unfold ser
 rw[h]
theorem j155(d:Nat)(ih:q25 d)(s:ByteArray)(a many:Nat)(last:UInt8)(w:World)(hs:s.size<=1000000000)(ha:a<=s.size+2)(hm:many<=4)(Ai:1<=many):
 Calls Tryz.prog 88 #[.string s,.int .i64 a,.int .i64 d,.int .i64 many,.int .u8 (last.toNat:Int)] w (SerQ w.heap.size w s.size (ser (prs d s.data.toList) s.data.toList last many a)):=by
 have HI:=hdq (fun a W (ha:a<=s.size+2)=> ih s a W hs ha);obtain⟨F,hF⟩: ∃F,F=prs d s.data.toList:=⟨_,rfl⟩;rw[<-hF] at HI⊢;obtain⟨R,hR⟩: ∃R,R=ser F s.data.toList last many a:=⟨_,rfl⟩;rw[<-hR];have HR:=hdq hR;obtain⟨i0,hi,hz0,hz1,hz2⟩:=info_parts y182;obtain⟨q,hq⟩: ∃q,last.toNat=q:=⟨_,rfl⟩;rw[hq];have HLQ:=hdq hq;clear hR ih hF hq;go_enter Tryz.func88,Tryz.ntmps88;go_wp2_with fail;have hx0:=(xr w).alloc (.cells #[] 26);have hb0:=heap_alloc_new w (.cells #[] 26);have hs0:w.heap.size <(w.alloc (.cells #[] 26)).heap.size:=by simp
 generalize World.alloc w _=w1 at hx0 hb0 hs0
 go_loopw [1,12,13] (fun at_ o i wr=> ∃(j a':Nat) (ts:List Tr),j<=many/\at_= .int .i64 a'/\i= .int .i64 j/\a'<=s.size+2/\y32 (· < w.heap.size) w wr 26 o ts/\ts.length=j/\Ext w wr/\w.heap.size < wr.heap.size/\R=(ser F s.data.toList last (many - j) a').map (fun x=>(ts++x.1,x.2))/\(j=many->a'<=s.size)) (fun _ _ i _=> many -(intOf i).toNat)
 case atStart=> exact⟨0,a, [],Nat.zero_le _,rfl,rfl,ha,y32.lit hb0 (Nat.le_refl _),rfl,hx0,hs0,by rw[HR.out];simp,by omega⟩
 case round=>
  obtain⟨j,a',ts,hj,rfl,rfl,ha',hG,fo,hx,hsz,F4,hend⟩:=hrel;have HE:=hdq F4;have dr:=hdq fo;have htl4:ts.length<=4:=by omega
  clear fo;obtain⟨Bo,co,rfl,M6,hl2,Et,-⟩:=hG.lies (fun b hb=> hb);clear F4;by_cases hlt:j < many
  · have yr:(j:Int) <(many:Int):=by omega
    have HND:=hdq hend;clear hend;go_wp2_with fail;refine(HI.out a' wr ha').mono ?_;rintro e w2 ⟨t,u,nx,rfl,hF,e2,q1,q2⟩;obtain⟨k0,n0,A0,l0,c0,rfl⟩:=hF.three;have hs2:=e2.size;have cj:=e2.trans ((xr w2).alloc (.cells #[.int .i64 k0,.int .i64 n0,.slice A0 l0 c0] 26));cases hFa:F a' with
    |none=>
     obtain rfl:=q2 hFa;have J3:R=none:=by
      rw[HE.out,show many - j=(many - j - 1)+1 by omega,j208 hFa]
      rfl
     have Ba:=hdq J3;clear q1 q2 J3 hFa;go_wp2_with fail;go_ret2;exact⟨[],none,0,-1,rfl,Nat.le_refl _,Nat.zero_le _,.inl rfl,hx.trans cj,(fun x hx=> by rw[Ba.out] at hx;cases hx),fun _=> rfl⟩
    |some y=>
     obtain⟨t',b⟩:=y;obtain⟨h1,h2,h3⟩:=q1 _ hFa;simp only at h1 h2 h3;subst h1 h2;have hst:=HE.out;rw[show many - j=(many -(j+1))+1 by omega,y196 hFa] at hst;clear q1 q2 hFa;have t0:decide ((b:Int) < 0)=false:=decide_eq_false (by omega);by_cases yg:b < s.size
     · obtain⟨c,hc⟩: ∃c,s[b]=c:=⟨_,rfl⟩
       rw[j41 yg hc] at hst;have hbz:(b:Int) <(s.size:Int):=by omega
       have t1:decide ((s.size:Int)<=(b:Int))=false:=decide_eq_false (by omega);obtain⟨p,hp⟩: ∃p,c.toNat=p:=⟨_,rfl⟩;obtain⟨want,hw⟩: ∃want:UInt8,want=if many -(j+1)=0 then last else 44:=⟨_,rfl⟩
       rw[<-hw] at hst;by_cases hcw:c=want
       · rw[if_pos (by rw[hcw])] at hst
         have HST:=hdq hst;have Gk:=hG.ext cj;have Az: ∀o',y32 (· < w.heap.size) w (w2.alloc (.cells #[.int .i64 k0,.int .i64 n0,.slice A0 l0 c0] 26)) 26 o' ts->True:=fun _ _=> trivial
         have hown: ∀g,(Value.slice Bo ts.length co).ownBlock=some g->g < wr.heap.size:=by
          obtain⟨xs,g1,-⟩:=hG;exact fun g hg=>(g1.lt g hg).2
         have Ol:=hdq hown;have hFx:=(hF.ext ((xr w2).alloc (.cells #[.int .i64 k0,.int .i64 n0,.slice A0 l0 c0] 26))).ext ((xr _).alloc (.cells #[.int .i64 k0,.int .i64 n0,.slice A0 l0 c0] 26));have hGx:=Gk.ext ((xr _).alloc (.cells #[.int .i64 k0,.int .i64 n0,.slice A0 l0 c0] 26));have um:=heap_alloc_new (w2.alloc (.cells #[.int .i64 k0,.int .i64 n0,.slice A0 l0 c0] 26)) (.cells #[.int .i64 k0,.int .i64 n0,.slice A0 l0 c0] 26);simp only[World.size_alloc] at um;have hT:InT ((w2.alloc (.cells #[.int .i64 k0,.int .i64 n0,.slice A0 l0 c0] 26)).alloc (.cells #[.int .i64 k0,.int .i64 n0,.slice A0 l0 c0] 26)) (fun b=> b <((w2.alloc (.cells #[.int .i64 k0,.int .i64 n0,.slice A0 l0 c0] 26)).alloc (.cells #[.int .i64 k0,.int .i64 n0,.slice A0 l0 c0] 26)).heap.size/\(Value.slice Bo ts.length co).ownBlock≠some b/\ ¬(b < w.heap.size)) t (.agg #[.int .i64 k0,.int .i64 n0,.slice A0 l0 c0]):=hFx.mono (fun b hb=>⟨hb.2,fun h=> by have:=Ol.out b h;omega,by omega⟩) (fun _ _=> rfl);have HT:=hdq hT;have HGX:=hdq hGx;have HW:=hdq hw;clear hst hw hG Gk hT hFx hF hown hGx Az Et;have C3:(j+1 < many/\p=44/\((j:Int)+1==(many:Int))=false)\/(many<=j+1/\p=q/\((j:Int)+1==(many:Int))=true):=by
          rcases Nat.lt_or_ge (j+1) many with g|g
          · refine .inl ⟨g, ?_,by rw[beq_eq_false_iff_ne];omega⟩
            have:=hcw;rw[HW.out,if_neg (by omega)] at this;rw[<-hp,this];rfl
          · refine .inr ⟨g, ?_,by rw[beq_iff_eq];omega⟩
            have:=hcw;rw[HW.out,if_pos (by omega)] at this;rw[<-hp,this,HLQ.out]
         clear hcw;rcases C3 with⟨g1,rfl,g3⟩ |⟨g1,rfl,g3⟩
         all_goals(
          have gz:(j:Int)+1 <(many:Int)\/(many:Int)<=(j:Int)+1:=by omega
          have gd:decide ((j:Int)+1 <(many:Int))=decide (j+1 < many):=decide_eq_decide.2 (by omega);clear gz)
         all_goals(
          have h44:((44:Int) !=44)=false:=by decide
          go_wp2_with (at_builtin;refine j33 _ rfl (.tmp 62) (.tmp 64) _ (by rfl) 26 i0 _ Tryz.underlying24 hi hz0 hz1 hz2 rfl (by rfl) (X:=(· < w.heap.size)) (W:=w) (tr:=t) HGX.out (by simp;omega) HT.out (by rfl) um (by omega) ?_ (fun b hb=> hb))
          intro v' w5 S6 I3;obtain⟨B5,c5,rfl,r1,r2,-,-⟩:=S6.lies (fun b hb=> hb);have pw:Ext w w5:=Below.trans (hx.trans (cj.trans ((xr _).alloc (.cells #[.int .i64 k0,.int .i64 n0,.slice A0 l0 c0] 26)))) I3;have hs5:=I3.size;have HG5:=hdq S6;have Pg:w.heap.size < w5.heap.size:=by simp at hs5;omega
          clear S6 I3 hs5 um;go_wp2_with fail
          go_roundw
          case rel=> exact⟨j+1,b+1,ts++ [t],by omega,by go_num,by go_num,by omega,HG5.out,by rw[List.length_append,dr.out];rfl,pw,Pg,by rw[HST.out,Option.map_map];congr 1;funext x;simp,by omega⟩
          case measure=> simp[intOf];omega)
       · rw[if_neg (by intro h;cases h;exact hcw rfl)] at hst
         have Ba:=hdq (show R=none from by rw[hst];rfl);have C3:(j+1 < many/\((p:Int) !=44)=true)\/(many<=j+1/\((p:Int) !=(q:Int))=true/\((j:Int)+1==(many:Int))=true):=by
          rcases Nat.lt_or_ge (j+1) many with g|g
          · refine .inl ⟨g, ?_⟩
            rw[bne_iff_ne];intro h;rw[hw,if_neg (by omega)] at hcw;exact hcw (UInt8.toNat_inj.1 (by rw[hp];simp;omega))
          · refine .inr ⟨g, ?_,by rw[beq_iff_eq];omega⟩
            rw[bne_iff_ne];intro h;rw[hw,if_pos (by omega)] at hcw;exact hcw (UInt8.toNat_inj.1 (by rw[hp,HLQ.out];omega))
         clear hst hw hcw hG Et;rcases C3 with⟨g1,g2⟩ |⟨g1,g2,g3⟩
         all_goals(
          go_wp2_with fail;go_ret2;exact⟨[],none,0,-1,rfl,Nat.le_refl _,Nat.zero_le _,.inl rfl,hx.trans cj,(fun x hx=> by rw[Ba.out] at hx;cases hx),fun _=> rfl⟩)
     · rw[j43 s (by omega),if_neg (by simp)] at hst
       have Ba:=hdq (show R=none from by rw[hst];rfl);have t1:decide ((s.size:Int)<=(b:Int))=true:=decide_eq_true (by omega);clear hst hG Et;go_wp2_with fail;go_ret2;exact⟨[],none,0,-1,rfl,Nat.le_refl _,Nat.zero_le _,.inl rfl,hx.trans cj,(fun x hx=> by rw[Ba.out] at hx;cases hx),fun _=> rfl⟩
  · have hjm:j=many:=by omega
    have C6:R=some (ts,a'):=by
     rw[HE.out,hjm,Nat.sub_self];simp[ser]
    have HRs:=hdq C6;have hK2:j35 w.heap.size wr Bo ts:=Et.mono (fun b hb=>⟨by omega,hb.1⟩) (fun _ _=> rfl);have F8:=hend hjm;clear C6 hend Et hG;go_wp2_with fail;go_ret2;refine⟨ts,Bo,co,(a':Int), ?_,M6,hl2,hK2,hx, ?_, ?_⟩
    · rfl
    · intro x hx
      rw[HRs.out] at hx;cases hx
      exact⟨rfl,rfl,F8⟩
    · intro hx
      rw[HRs.out] at hx;cases hx
end Go.Proofs.YtbnkbepgmenblaaGreatDoor
namespace Go.Proofs.YtbnkbepgmenblaaGreatDoor
def catP(f:Tr->List UInt8):List (List UInt8)->List Tr->List UInt8
 |p::ps,t::ts=> f t++p++catP f ps ts
 |_,_=> []
theorem y188{f:Tr->List UInt8}{ps:List (List UInt8)}{ks:List Tr}{j:Nat}(h1:j < ks.length)(h2:j < ps.length):catP f (ps.drop j) (ks.drop j)=f ks[j]++ps[j]++catP f (ps.drop (j+1)) (ks.drop (j+1)):=by
 rw[List.drop_eq_getElem_cons h1,List.drop_eq_getElem_cons h2,catP]
theorem q214{f:Tr->List UInt8}{ps:List (List UInt8)}{ks:List Tr}{j:Nat}(h1:ks.length<=j):catP f (ps.drop j) (ks.drop j)= []:=by
 rw[List.drop_of_length_le h1];cases ps.drop j <;> rfl
theorem j152{k n d:Int}{ks:List Tr}(h:shape sigT (.mk k n ks) d=true)(h1:k≠1)(h2:k≠2):fmtL (.mk k n ks)=(prt k).headD []++catP fmtL (prt k).tail ks/\(prt k).length=ks.length+1:=by
 obtain⟨j7,H7,I0,l8⟩:=j11 h;have af:opsT k=(ks.length:Int):=j7;have L6:n<=j15 k:=I0;rcases q55 af with rfl|rfl|rfl|rfl|rfl|rfl|rfl|rfl|rfl|rfl|rfl|rfl|rfl|rfl|rfl|rfl
 · exact absurd rfl h1
 · exact absurd rfl h2
 · have hn:n=0:=by have:j15 3=0:=rfl;omega
   subst hn;obtain⟨x,y,rfl⟩: ∃x y,ks= [x,y]:=by
    have hlen:ks.length=2:=by have:opsT 3=2:=rfl;omega
    match ks,hlen with
    | [x,y],_=> exact⟨x,y,rfl⟩
   have e:=fmt_3 (x:=x) (y:=y) [];rw[List.append_nil] at e;rw[e];exact⟨by simp[prt,catP],rfl⟩
 · have hn:n=0:=by have:j15 4=0:=rfl;omega
   subst hn;obtain⟨x,y,rfl⟩: ∃x y,ks= [x,y]:=by
    have hlen:ks.length=2:=by have:opsT 4=2:=rfl;omega
    match ks,hlen with
    | [x,y],_=> exact⟨x,y,rfl⟩
   have e:=fmt_4 (x:=x) (y:=y) [];rw[List.append_nil] at e;rw[e];exact⟨by simp[prt,catP],rfl⟩
 · have hn:n=0:=by have:j15 5=0:=rfl;omega
   subst hn;obtain⟨x,y,rfl⟩: ∃x y,ks= [x,y]:=by
    have hlen:ks.length=2:=by have:opsT 5=2:=rfl;omega
    match ks,hlen with
    | [x,y],_=> exact⟨x,y,rfl⟩
   have e:=fmt_5 (x:=x) (y:=y) [];rw[List.append_nil] at e;rw[e];exact⟨by simp[prt,catP],rfl⟩
 · have hn:n=0:=by have:j15 6=0:=rfl;omega
   subst hn;have P4:ks= []:=List.eq_nil_of_length_eq_zero (by have:opsT 6=0:=rfl;omega);subst P4;have e:=fmt_6 [];rw[List.append_nil] at e;rw[e];exact⟨by simp[prt,catP],rfl⟩
 · have hn:n=0:=by have:j15 7=0:=rfl;omega
   subst hn;have P4:ks= []:=List.eq_nil_of_length_eq_zero (by have:opsT 7=0:=rfl;omega);subst P4;have e:=fmt_7 [];rw[List.append_nil] at e;rw[e];exact⟨by simp[prt,catP],rfl⟩
 · have hn:n=0:=by have:j15 8=0:=rfl;omega
   subst hn;obtain⟨x,rfl⟩: ∃x,ks= [x]:=by
    have hlen:ks.length=1:=by have:opsT 8=1:=rfl;omega
    match ks,hlen with
    | [x],_=> exact⟨x,rfl⟩
   have e:=fmt_8 (x:=x) [];rw[List.append_nil] at e;rw[e];exact⟨by simp[prt,catP],rfl⟩
 · have hn:n=0:=by have:j15 9=0:=rfl;omega
   subst hn;obtain⟨x,y,z,u,rfl⟩: ∃x y z u,ks= [x,y,z,u]:=by
    have hlen:ks.length=4:=by have:opsT 9=4:=rfl;omega
    match ks,hlen with
    | [x,y,z,u],_=> exact⟨x,y,z,u,rfl⟩
   have e:=fmt_9 (x:=x) (y:=y) (z:=z) (u:=u) [];rw[List.append_nil] at e;rw[e];exact⟨by simp[prt,catP],rfl⟩
 · have hn:n=0:=by have:j15 10=0:=rfl;omega
   subst hn;obtain⟨x,y,z,rfl⟩: ∃x y z,ks= [x,y,z]:=by
    have hlen:ks.length=3:=by have:opsT 10=3:=rfl;omega
    match ks,hlen with
    | [x,y,z],_=> exact⟨x,y,z,rfl⟩
   have e:=j164 (x:=x) (y:=y) (z:=z) [];rw[List.append_nil] at e;rw[e];exact⟨by simp[prt,catP],rfl⟩
 · have hn:n=0:=by have:j15 11=0:=rfl;omega
   subst hn;obtain⟨x,rfl⟩: ∃x,ks= [x]:=by
    have hlen:ks.length=1:=by have:opsT 11=1:=rfl;omega
    match ks,hlen with
    | [x],_=> exact⟨x,rfl⟩
   have e:=q164 (x:=x) [];rw[List.append_nil] at e;rw[e];exact⟨by simp[prt,catP],rfl⟩
 · have hn:n=0:=by have:j15 12=0:=rfl;omega
   subst hn;obtain⟨x,y,z,rfl⟩: ∃x y z,ks= [x,y,z]:=by
    have hlen:ks.length=3:=by have:opsT 12=3:=rfl;omega
    match ks,hlen with
    | [x,y,z],_=> exact⟨x,y,z,rfl⟩
   have e:=y189 (x:=x) (y:=y) (z:=z) [];rw[List.append_nil] at e;rw[e];exact⟨by simp[prt,catP],rfl⟩
 · have hn:n=0:=by have:j15 13=0:=rfl;omega
   subst hn;obtain⟨x,y,rfl⟩: ∃x y,ks= [x,y]:=by
    have hlen:ks.length=2:=by have:opsT 13=2:=rfl;omega
    match ks,hlen with
    | [x,y],_=> exact⟨x,y,rfl⟩
   have e:=q170 (x:=x) (y:=y) [];rw[List.append_nil] at e;rw[e];exact⟨by simp[prt,catP],rfl⟩
 · have hn:n=0:=by have:j15 14=0:=rfl;omega
   subst hn;obtain⟨x,y,z,rfl⟩: ∃x y z,ks= [x,y,z]:=by
    have hlen:ks.length=3:=by have:opsT 14=3:=rfl;omega
    match ks,hlen with
    | [x,y,z],_=> exact⟨x,y,z,rfl⟩
   have e:=y187 (x:=x) (y:=y) (z:=z) [];rw[List.append_nil] at e;rw[e];exact⟨by simp[prt,catP],rfl⟩
 · have hn:n=0:=by have:j15 15=0:=rfl;omega
   subst hn;obtain⟨x,rfl⟩: ∃x,ks= [x]:=by
    have hlen:ks.length=1:=by have:opsT 15=1:=rfl;omega
    match ks,hlen with
    | [x],_=> exact⟨x,rfl⟩
   have e:=y186 (x:=x) [];rw[List.append_nil] at e;rw[e];exact⟨by simp[prt,catP],rfl⟩
 · have hn:n=0:=by have:j15 16=0:=rfl;omega
   subst hn;obtain⟨x,rfl⟩: ∃x,ks= [x]:=by
    have hlen:ks.length=1:=by have:opsT 16=1:=rfl;omega
    match ks,hlen with
    | [x],_=> exact⟨x,rfl⟩
   have e:=j176 (x:=x) [];rw[List.append_nil] at e;rw[e];exact⟨by simp[prt,catP],rfl⟩
end Go.Proofs.YtbnkbepgmenblaaGreatDoor
namespace Go.Proofs.YtbnkbepgmenblaaGreatDoor
open Go.RowKit
theorem InK.bound{w:World}{S:Nat->Prop}{A:Option Addr}{ks:List Tr}(h:InK w S A ks):InK w (fun b=> S b/\b < w.heap.size) A ks:=by
 rcases h with h|⟨b,o,rfl,hb,hl⟩
 · exact .inl h
 · cases ks with
   |nil=> exact .inl rfl
   |cons t ts=>
    refine .inr ⟨b,o,rfl,⟨hb, ?_⟩,InL.bound hl⟩;unfold InL at hl;obtain⟨⟨v0,v1,v2,h0,-⟩,-⟩:=hl;exact World.block_lt_of_cell? _ _ h0
theorem InT.keep{w W:World}{N:Nat->Prop}{t:Tr}{v:Value}{g:Nat}(h:InT w N t v)(he:Ext w W)(hg:w.heap.size<=g):InT W (fun b=> N b/\b≠g) t v:=
 InT.mono (fun b hb=>⟨hb.1,by omega⟩) (fun b hb=> he.heap b hb.2) h.bound
theorem InK.keep{w W:World}{N:Nat->Prop}{A:Option Addr}{ks:List Tr}{g:Nat}(h:InK w N A ks)(he:Ext w W)(hg:w.heap.size<=g):InK W (fun b=> N b/\b≠g) A ks:=
 InK.mono (fun b hb=>⟨hb.1,by omega⟩) (fun b hb=> he.heap b hb.2) h.bound
theorem InK.later{w w':World}{S:Nat->Prop}{A:Option Addr}{ks:List Tr}(h:InK w S A ks)(he:Ext w w'):InK w' S A ks:=
 InK.mono (fun _ hb=> hb.1) (fun b hb=> he.heap b hb.2) h.bound
theorem InT.lies'{w:World}{N:Nat->Prop}{t:Tr}{v:Value}(h:InT w N t v):Lies w t v:=InT.mono (fun b hb=> hb.2) (fun _ _=> rfl) h.bound
theorem InT.ret{W:World}{N:Nat->Prop}{t:Tr}{v:Value}{g:Nat}(h:InT W (fun b=> N b/\b≠g) t v)(x y z:Value):InT (((W.setCell ⟨g,0,none⟩ x).setCell ⟨g,1,none⟩ y).setCell ⟨g,2,none⟩ z) N t v:=
 InT.mono (fun b hb=> hb.1) (fun b hb=> by rw[Below.heap_setCell _ _ _ _ hb.2,Below.heap_setCell _ _ _ _ hb.2,Below.heap_setCell _ _ _ _ hb.2]) h
theorem q19(W:World)(N:Nat->Prop)(k n:Int):InT W N (.mk k n []) (.agg #[.int .i64 k,.int .i64 n,.slice none 0 0]):=InT.mk_iff.2 ⟨none,0,rfl,Nat.le_refl _,Nat.zero_le _,.inl rfl⟩
theorem Made.at'{w w':World}{N:Nat->Prop}{e:TypeId}{t:Tr}{v:Value}(h:Made w w' e t v)(hN: ∀b,w.heap.size<=b->N b):InT w' N t v:=InT.mono (fun b hb=> hN b hb.1) (fun _ _=> rfl) (From.made h)
theorem newN{w:World}{N:Nat->Prop}{g n:Nat}(hN: ∀b,w.heap.size<=b->N b)(hw:w.heap.size<=n)(hg:g < n): ∀b,n<=b->N b/\b≠g:=fun b hb=>⟨hN b (by omega),by omega⟩
def AnQ(N:Nat->Prop)(w:World)(r:Tr×Int)(e:Ending)(w':World):Prop:= ∃u,e= .returned (.tuple #[u,.int .i64 r.2])/\InT w' N r.1 u/\Ext w w'
end Go.Proofs.YtbnkbepgmenblaaGreatDoor
namespace Go.Proofs.YtbnkbepgmenblaaGreatDoor
mutual
def cntP(p:Tr->Bool):Tr->Nat
 | .mk k n ks=>(if p (.mk k n ks)=true then 1 else 0)+cntsP p ks
def cntsP(p:Tr->Bool):List Tr->Nat
 | []=> 0
 |t::ts=> cntP p t+cntsP p ts
end
def y155(t:Tr):Bool:=rdxT t !=0
def atT:Tr->List Int->Option Tr
 |t, []=> some t
 | .mk _ _ ks,i::r=> if 0<=i/\i < ks.length then atT (kd ks i.toNat) r else none
theorem j163(t:Tr)(ts:List Tr)(i:Nat):kd (t::ts) (i+1)=kd ts i:=rfl
theorem q77{ks:List Tr}{i:Nat}(h:i < ks.length):kd ks i∈ks:=by
 unfold kd;rw[List.getD_eq_getElem?_getD,List.getElem?_eq_getElem h];exact List.getElem_mem h
theorem q121{g:Sig}: ∀(a:List Int) (t u:Tr) (d:Int),shape g t d=true->atT t a=some u->shape g u (d - a.length)=true
 | [],t,u,d,h,e=> by
  have e:t=u:=by cases t;simpa[atT] using e
  subst e
  simpa using h
 |i::a,.mk k n ks,u,d,h,e=> by
  rw[atT] at e
  split at e
  · rename_i hi
    have h1:=(j29 h).2.2.2 (kd ks i.toNat) (q77 (by omega));have:=q121 a _ u (d - 1) h1 e;rw[List.length_cons,show d -((a.length+1:Nat):Int)=d - 1 - a.length by omega];exact this
  · cases e
theorem j103{g:Sig}{t:Tr}{d:Int}(h:shape g t d=true):1<=d:=by
 obtain⟨k,n,ks⟩:=t;simp only[shape,Bool.and_eq_true,decide_eq_true_eq] at h;exact h.1
mutual
def outT:Tr->Option (List Int)
 | .mk k n ks=> if rdx k ks=0 then q46 0 ks else some []
def q46:Nat->List Tr->Option (List Int)
 |_, []=> none
 |i,t::ts=> match outT t with
  |some p=> some ((i:Int)::p)
  |none=> q46 (i+1) ts
end
mutual
theorem j110: ∀t:Tr,(outT t).isSome= !nrm t
 | .mk k n ks=> by
  rw[outT,nrm];by_cases h:rdx k ks=0
  · rw[if_pos h,y122 ks 0]
    simp[h]
  · rw[if_neg h]
    simp[h]
theorem y122: ∀(ks:List Tr) (i:Nat),(q46 i ks).isSome= !nrms ks
 | [],i=> by rw[q46,nrms];rfl
 |t::ts,i=> by
  have h:=j110 t;rw[q46,nrms];cases e:outT t with
  |some p=> rw[e] at h;simp at h;simp[h]
  |none=> rw[e] at h;simp at h;simp[h,y122 ts (i+1)]
end
theorem y116: ∀(t:Tr) (d:Int),shape sigT t d=true-> ∀p,outT t=some p->(p.length:Int)<=d:=Tr.ind fun k n ks hk=> by
 intro d h p e;have hd:=j103 h;rw[outT] at e
 split at e
 · have key: ∀(i:Nat) (ts:List Tr),(∀t∈ts,t∈ks)->q46 i ts=some p->(p.length:Int)<=d:=by
    intro i ts
    induction ts generalizing i with
    |nil=> intro _ h;rw[q46] at h;cases h
    |cons t ts ih=>
     intro hm h1;rw[q46] at h1;cases e2:outT t with
     |some q=>
      rw[e2] at h1;simp only[Option.some.injEq] at h1;subst h1;have:=hk t (hm t (by simp)) (d - 1) ((j29 h).2.2.2 t (hm t (by simp))) q e2;simp only[List.length_cons];omega
     |none=>
      rw[e2] at h1;exact ih (i+1) (fun t ht=> hm t (by simp[ht])) h1
   exact key 0 ks (fun _ h=> h) e
 · simp only[Option.some.injEq] at e
   subst e;simp
   omega
end Go.Proofs.YtbnkbepgmenblaaGreatDoor
