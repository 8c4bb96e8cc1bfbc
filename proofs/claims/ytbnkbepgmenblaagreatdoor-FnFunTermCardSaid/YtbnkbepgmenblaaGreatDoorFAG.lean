/-
  Lemmas towards the law, 7: Text, Grow, Fits, Same.
-/
import Derived.Test.YtbnkbepgmenblaaGreatDoorFAF
import Derived.Laws.AppendOwn
import Derived.Outline
import Derived.OwnWalk
import Derived.StillTailTactics
import Derived.Test.YtbnkbepgmenblaaGreatDoorProg
set_option linter.unusedVariables false
set_option maxHeartbeats 400000
namespace Go.Proofs.YtbnkbepgmenblaaGreatDoor
def ofL(l:List UInt8):ByteArray:=⟨l.toArray⟩
theorem y13(a b:List UInt8):ofL a++ofL b=ofL (a++b):=by
 apply ByteArray.ext
 simp[ofL]
theorem j17(l:List UInt8):(ofL l).size=l.length:=by simp[ofL,ByteArray.size]
theorem y22(l:List UInt8):(ofL l).data.toList=l:=by simp[ofL]
theorem ofL_of(s:ByteArray):ofL s.data.toList=s:=by
 apply ByteArray.ext
 simp[ofL]
def decL(n:Int):List UInt8:=if n<=9 then [UInt8.ofNat (48+n.toNat)] else [UInt8.ofNat (48+n.toNat / 10),UInt8.ofNat (48+n.toNat % 10)]
def opn(k:Int):List UInt8:=
 if k=3 then [40] else if k=4 then [91] else if k=5 then [40] else if k=6 then [78] else if k=7 then [48] else if k=8 then [43] else if k=9 then [60] else if k=10 then [123] else if k=11 then [33] else if k=12 then [64,60] else if k=13 then [40] else if k=14 then [124] else if k=15 then [94] else if k=16 then [95] else []
def sep(k:Int):List UInt8:=
 if k=3 then [62] else if k=4 then [93] else if k=5 then [32] else if k=13 then [42] else [44]
def cls(k:Int):List UInt8:=
 if k=3 then [41] else if k=5 then [41] else if k=9 then [62] else if k=10 then [125] else if k=12 then [62] else if k=13 then [41] else if k=14 then [124] else []
mutual
def fmtL:Tr->List UInt8
 | .mk k n ks=> if k=1 then 35::decL n else if k=2 then 42::decL n else opn k++fmtK (sep k) ks true++cls k
def fmtK:List UInt8->List Tr->Bool->List UInt8
 |_, [],_=> []
 |s,t::ts,f=>(if f=true then [] else s)++fmtL t++fmtK s ts false
end
theorem q72(n:Int):(decL n).length<=2:=by unfold decL;split <;> simp
theorem opn_len(k:Int):(opn k).length<=2:=by
 unfold opn;by_cases h3:k=3
 · rw[if_pos h3];decide
 rw[if_neg h3];by_cases h4:k=4
 · rw[if_pos h4];decide
 rw[if_neg h4];by_cases h5:k=5
 · rw[if_pos h5];decide
 rw[if_neg h5];by_cases h6:k=6
 · rw[if_pos h6];decide
 rw[if_neg h6];by_cases h7:k=7
 · rw[if_pos h7];decide
 rw[if_neg h7];by_cases h8:k=8
 · rw[if_pos h8];decide
 rw[if_neg h8];by_cases h9:k=9
 · rw[if_pos h9];decide
 rw[if_neg h9];by_cases h10:k=10
 · rw[if_pos h10];decide
 rw[if_neg h10];by_cases h11:k=11
 · rw[if_pos h11];decide
 rw[if_neg h11];by_cases O9:k=12
 · rw[if_pos O9];decide
 rw[if_neg O9];by_cases K0:k=13
 · rw[if_pos K0];decide
 rw[if_neg K0];by_cases h14:k=14
 · rw[if_pos h14];decide
 rw[if_neg h14];by_cases T5:k=15
 · rw[if_pos T5];decide
 rw[if_neg T5];by_cases C9:k=16
 · rw[if_pos C9];decide
 rw[if_neg C9]
 decide
theorem sep_len(k:Int):(sep k).length=1:=by
 unfold sep;by_cases h3:k=3
 · rw[if_pos h3];decide
 rw[if_neg h3];by_cases h4:k=4
 · rw[if_pos h4];decide
 rw[if_neg h4];by_cases h5:k=5
 · rw[if_pos h5];decide
 rw[if_neg h5];by_cases K0:k=13
 · rw[if_pos K0];decide
 rw[if_neg K0]
 decide
theorem cls_len(k:Int):(cls k).length<=1:=by
 unfold cls;by_cases h3:k=3
 · rw[if_pos h3];decide
 rw[if_neg h3];by_cases h5:k=5
 · rw[if_pos h5];decide
 rw[if_neg h5];by_cases h9:k=9
 · rw[if_pos h9];decide
 rw[if_neg h9];by_cases h10:k=10
 · rw[if_pos h10];decide
 rw[if_neg h10];by_cases O9:k=12
 · rw[if_pos O9];decide
 rw[if_neg O9];by_cases K0:k=13
 · rw[if_pos K0];decide
 rw[if_neg K0];by_cases h14:k=14
 · rw[if_pos h14];decide
 rw[if_neg h14]
 decide
mutual
theorem j22: ∀t:Tr,(fmtL t).length+1<=5*cnt t
 | .mk k n ks=> by
  have h1:=q72 n;have h2:=opn_len k;have h3:=cls_len k;have h4:=j58 (sep k) (by rw[sep_len k];omega) ks true;unfold fmtL;simp only[cnt]
  split
  · simp;omega
  · split
    · simp;omega
    · simp;omega
theorem j58(s:List UInt8)(hs:s.length<=1): ∀(ts:List Tr) (f:Bool),(fmtK s ts f).length<=5*cnts ts
 | [],_=> by simp[fmtK]
 |t::ts,f=> by
  have h1:=j22 t;have h2:=j58 s hs ts false;unfold fmtK;simp only[cnts];cases f <;> simp <;> omega
end
def fmtV(t:Tr):List UInt8:=if valid sigT t=true then fmtL t else []
def q29(c:UInt8):Bool:=decide (48<=c)&& decide (c<=57)
def numS(l:List UInt8)(a:Nat)(two:Bool):Option (Int×Nat):=
 match l[a]?with
 |none=> none
 |some c=> if q29 c=true then
  (if two=true then
   match l[a+1]?with
   |none=> some ((c.toNat:Int) - 48,a+1)
   |some d=> if q29 d=true then(if c=48 then none else some (((c.toNat:Int) - 48)*10+((d.toNat:Int) - 48),a+2)) else some ((c.toNat:Int) - 48,a+1)
  else some ((c.toNat:Int) - 48,a+1))
  else none
def ser(p:Nat->Option (Tr×Nat))(l:List UInt8)(last:UInt8):Nat->Nat->Option (List Tr×Nat)
 |0,a=> some ([],a)
 |m+1,a=> match p a with
  |none=> none
  |some (t,b)=> if l[b]? =some (if m=0 then last else 44) then(ser p l last m (b+1)).map (fun x=>(t::x.1,x.2)) else none
def one(k:Int)(x:Option (Tr×Nat)):Option (Tr×Nat):=x.map fun y=>(.mk k 0 [y.1],y.2)
def rndK(c:Option UInt8):Int:=if c=some 62 then 3 else if c=some 42 then 13 else if c=some 32 then 5 else 0
def rnd(p:Nat->Option (Tr×Nat))(l:List UInt8)(a:Nat):Option (Tr×Nat):=
 match p a with
 |none=> none
 |some (x,b)=> if rndK l[b]? =0 then none else
  match p (b+1) with
  |none=> none
  |some (y,c)=> if l[c]? =some 41 then some (.mk (rndK l[b]?) 0 [x,y],c+1) else none
def sqr(p:Nat->Option (Tr×Nat))(l:List UInt8)(a:Nat):Option (Tr×Nat):=
 match p a with
 |none=> none
 |some (x,b)=> if l[b]? =some 93 then(match p (b+1) with|none=> none|some (y,c)=> some (.mk 4 0 [x,y],c)) else none
def blkK(c:UInt8):Int:=if c=60 then 9 else if c=123 then 10 else if c=124 then 14 else if c=64 then 12 else 0
def blkE(c:UInt8):UInt8:=if c=123 then 125 else if c=124 then 124 else 62
def blk(p:Nat->Option (Tr×Nat))(l:List UInt8)(a:Nat)(c:UInt8):Option (Tr×Nat):=
 if blkK c=0 then none
 else if c=64 then(if l[a+1]? =some 60 then(ser p l 62 3 (a+2)).map (fun x=>(.mk 12 0 x.1,x.2)) else none)
 else(ser p l (blkE c) (if c=60 then 4 else 3) (a+1)).map (fun x=>(.mk (blkK c) 0 x.1,x.2))
def prs:Nat->List UInt8->Nat->Option (Tr×Nat)
 |0,_,_=> none
 |d+1,l,a=>
  match l[a]?with
  |none=> none
  |some c=>
   if c=35 then(numS l (a+1) true).map (fun x=>(.mk 1 x.1 [],x.2))
   else if c=42 then(numS l (a+1) false).map (fun x=>(.mk 2 x.1 [],x.2))
   else if c=78 then some (.mk 6 0 [],a+1)
   else if c=48 then some (.mk 7 0 [],a+1)
   else if c=43 then one 8 (prs d l (a+1))
   else if c=33 then one 11 (prs d l (a+1))
   else if c=94 then one 15 (prs d l (a+1))
   else if c=95 then one 16 (prs d l (a+1))
   else if c=40 then rnd (prs d l) l (a+1)
   else if c=91 then sqr (prs d l) l (a+1)
   else blk (prs d l) l a c
def prsV(l:List UInt8):Option Tr:=
 match prs 30 l 0 with
 |none=> none
 |some (t,b)=> if l≠ []/\b=l.length/\fmtV t=l then some t else none
theorem y157{l:List UInt8}{t:Tr}(h:prsV l=some t):valid sigT t=true/\fmtL t=l:=by
 unfold prsV at h
 split at h
 · cases h
 · rename_i t' b _
   split at h
   · rename_i hh
     cases h
     obtain⟨h1,h2,h3⟩:=hh;unfold fmtV at h3
     split at h3
     · rename_i hv
       exact⟨hv,h3⟩
     · exact absurd h3.symm h1
   · cases h
end Go.Proofs.YtbnkbepgmenblaaGreatDoor
namespace Go.Proofs.YtbnkbepgmenblaaGreatDoor
open Go.RowKit
theorem y18{P:Program}(w:World)(base:Nat)(t ty e:TypeId)(i:TypeInfo)(z:Value)(size bytes:Nat)(ht:P.underlying t=some (.slice e))(hi:P.info? e=some i)(hz:i.zero=some z)
 (hsize:i.size=size) (hby:i.bytes=bytes) (hzs:z.cells.size=size) (hsz:0 < size)
 (v:Value) (n:Nat) (xs:List Value) (hown:w.ownsRow base e size v n xs)
 (a:Addr) (m c:Nat) (news:List Value) (hl:news.length=m*size) (hnews: ∀j u,news[j]? =some u->w.cell? (a.add j)=some u) (h1: ∀u∈news,u.oneCell'=true)
 (h63:n+m<=maxLen) (hbytes:(n+m)*bytes<=140737488355328) (hbase:base<=w.heap.size):
 ∃v' w',(Builtin.append_ #[t,t] ty #[v,.slice (some a) m c]).run P w= .ok v' w'/\w'.ownsRow base e size v' (n+m) (xs++news)/\w.grownBy w' v.ownBlock/\
  (∀g,v'.ownBlock=some g->v.ownBlock=some g\/w.heap.size<=g):=by
 obtain⟨v',w',hr,h2,h3,h4⟩:=run_append_own (P:=P) w base t ty e i z size bytes ht hi hz hsize hby hzs hsz v n xs hown a m c news hl hnews h1 h63 hbytes hbase;refine⟨v',w',hr,h2,h3,fun g hg=> ?_⟩;rcases hown.2 with⟨rfl,rfl⟩ |⟨g0,cap,cur,rfl,_,hg0,ey,hcm,hcs,htake⟩
 · by_cases hm:m=0
   · rw[h4.2 ⟨rfl,hm⟩] at hg
     cases hg
   · have Oh:m<=9223372036854775807:=by simp only[maxLen] at h63;omega
     have wz:=run_append_nil (P:=P) w t ty e i z ht hi hz a m c news (by rw[hl,hsize]) hnews (by omega) (by omega) (by rw[hby];have hb:=hbytes;simp only[Nat.zero_add] at hb;omega);rw[wz] at hr;cases hr
     simp only[Value.ownBlock,Option.some.injEq] at hg;exact .inr (by omega)
 · by_cases hroom:n+m<=cap
   · have Io:n*i.size+news.length<=cur.size:=by rw[hl,hcs,hsize,<-Nat.add_mul];exact Nat.mul_le_mul_right _ hroom
     have wz:=run_append_room (P:=P) w t ty e i ht hi g0 n cap cur hg0 a m c news (by rw[hl,hsize]) hnews h1 hroom Io;rw[wz] at hr;cases hr
     exact .inl hg
   · have Oh:n+m<=9223372036854775807:=by simp only[maxLen] at h63;omega
     have holds: ∀j u,xs[j]? =some u->w.cell? ((⟨g0,0,none⟩:Addr).add j)=some u:=hown.cells (g:=g0) rfl;have wz:=run_append_grow (P:=P) w t ty e i z ht hi hz ⟨g0,0,none⟩ n cap xs (by rw[hown.1,hsize]) holds a m c news (by rw[hl,hsize]) hnews (by omega) (by omega) (by rw[hby];exact growslice_fits (by omega) hbytes);rw[wz] at hr;cases hr
     simp only[Value.ownBlock,Option.some.injEq] at hg;exact .inr (by omega)
def Grow(W w:World)(e:TypeId)(v:Value)(ks:List Tr):Prop:=
 ∃xs L,w.ownsRow W.heap.size e 3 v ks.length xs/\OwnL w e xs ks L/\q33 W w L/\ ∀g,v.ownBlock=some g-> ¬g∈L
theorem Grow.nil(W w:World)(e:TypeId):Grow W w e (.slice none 0 0) []:=
 ⟨[], [],World.ownsRow_nil _ _ _ _,OwnL.nil,q33.nil _ _,fun _ _ h=> by cases h⟩
theorem j24{w w':World}{base:Nat}{e:TypeId}{v:Value}{n:Nat}{xs:List Value}(h:w.ownsRow base e 3 v n xs)(hb: ∀g,v.ownBlock=some g->w'.heap[g]? =w.heap[g]?):w'.ownsRow base e 3 v n xs:=by
 refine⟨h.1, ?_⟩;rcases h.2 with h|⟨g,cap,cur,rfl,h1,h2,r⟩
 · exact .inl h
 · exact .inr ⟨g,cap,cur,rfl,h1,(hb g rfl).trans h2,r⟩
theorem Grow.same{W w w':World}{e:TypeId}{v:Value}{ks:List Tr}(h:Grow W w e v ks)(hs:w.heap.size<=w'.heap.size)(hb: ∀b,W.heap.size<=b->b < w.heap.size->w'.heap[b]? =w.heap[b]?):Grow W w' e v ks:=by
 obtain⟨xs,L,h1,h2,h3,h4⟩:=h;exact⟨xs,L,j24 h1 (fun g hg=> hb g (h1.lt g hg).1 (h1.lt g hg).2),h2.mono (fun b hm=> hb b (h3.2 b hm).1 (h3.2 b hm).2),h3.mono (Nat.le_refl _) hs,h4⟩
theorem Grow.ext{W w w':World}{e:TypeId}{v:Value}{ks:List Tr}(h:Grow W w e v ks)(he:Ext w w'):Grow W w' e v ks:=h.same he.size (fun b _ hb=> he.heap b hb)
theorem Grow.after{W w w':World}{e:TypeId}{v:Value}{ks:List Tr}(h:Grow W w e v ks)(ha:q23 W.heap.size w w'):Grow W w' e v ks:=h.same ha.2 (fun b hb _=> ha.1 b hb)
theorem Grow.made{W w:World}{e:TypeId}{v:Value}{ks:List Tr}(h:Grow W w e v ks): ∃A cap,v= .slice A ks.length cap/\ks.length<=cap/\cap<=maxLen/\y63 W w e A ks:=by
 obtain⟨xs,L,h1,h2,h3,h4⟩:=h;rcases h1.2 with⟨rfl,h0⟩ |⟨g,cap,cur,rfl,hb,hg,ey,hcm,hcs,ht⟩
 · have:ks= []:=List.eq_nil_of_length_eq_zero h0
   subst this;exact⟨none,0,rfl,Nat.le_refl _,Nat.zero_le _,y63.nil _ _ _ _⟩
 · refine⟨_,cap,rfl,ey,hcm,g::L,.inr ⟨g,cur,L,rfl,hg,rfl, ?_⟩,List.nodup_cons.2 ⟨h4 g rfl,h3.1⟩,fun b hm=> ?_⟩
   · have:=OwnL.tail (cur.toList.drop (ks.length*3)) h2
     rw[<-ht,List.take_append_drop] at this;exact this
   · rcases List.mem_cons.1 hm with rfl|hm
     · exact⟨hb,j10 hg⟩
     · exact h3.2 b hm
theorem j54{w w':World}{e:TypeId}{t:Tr}{v0 v1 v2:Value}(h:Made w w' e t (.agg #[v0,v1,v2])): ∀u∈ [v0,v1,v2],u.oneCell'=true:=by
 obtain⟨k,n,ks⟩:=t;obtain⟨A,cap,hv,_⟩:=Made.mk_iff.1 h;simp only[Value.agg.injEq,Array.mk.injEq,List.cons.injEq,and_true] at hv;obtain⟨rfl,rfl,rfl⟩:=hv;intro u hu;simp only[List.mem_cons,List.not_mem_nil,or_false] at hu;rcases hu with rfl|rfl|rfl <;> rfl
theorem q60{w:World}{g:Nat}{v0 v1 v2:Value}{e:TypeId}(h:w.heap[g]? =some (.cells #[v0,v1,v2] e (0,0))): ∀j u, [v0,v1,v2][j]? =some u->w.cell? ((⟨g,0,none⟩:Addr).add j)=some u:=by
 intro j u hu;rw[Addr.add_lit,Nat.zero_add,q10 h]
 simpa using hu
theorem Grow.step{W wr w1 w w':World}{e:TypeId}{v v':Value}{ks:List Tr}{t:Tr}{v0 v1 v2:Value}{xs:List Value}{L:List Nat}
 (hL:OwnL wr e xs ks L) (hF:q33 W wr L) (hv: ∀g,v.ownBlock=some g-> ¬g∈L/\g < wr.heap.size/\W.heap.size<=g) (hx:xs.length=ks.length*3) (hW:W.heap.size<=wr.heap.size) (C5:Ext wr w1) (hM:Made wr w1 e t (.agg #[v0,v1,v2])) (F8:Ext w1 w)
 (h2:w'.ownsRow W.heap.size e 3 v' (ks.length+1) (xs++ [v0,v1,v2])) (h3:w.grownBy w' v.ownBlock) (h4: ∀g,v'.ownBlock=some g->v.ownBlock=some g\/w.heap.size<=g):Grow W w' e v' (ks++ [t])/\Below W.heap.size wr w':=by
 obtain⟨M,hM,lw⟩:=hM;have s1:=C5.size;have s2:=F8.size;have keep: ∀b,b < w1.heap.size->(v.ownBlock≠some b)->w'.heap[b]? =w1.heap[b]? :=fun b hb hne=>(h3.block b (by omega) (fun h=> hne h.symm)).trans (F8.heap b hb)
 refine⟨⟨_,L++M,by simpa using h2,OwnL.snoc (hM.mono fun b hb=> keep b (lw.2 b hb).2 fun he=> ?_) [] hx (hL.mono fun b hb=>(keep b (by have:=(hF.2 b hb).2;omega) fun he=> ?_).trans (C5.heap b (hF.2 b hb).2)), ?_,fun g hg hm=> ?_⟩, ?_⟩
 · have:=(hv b he).2.1
   have:=(lw.2 b hb).1;omega
 · exact(hv b he).1 hb
 · have h5:=hF.append (d:=w1) lw (Nat.le_refl _) hW C5.size
   exact h5.mono (Nat.le_refl _) (by have:=h3.size;omega)
 · rcases h4 g hg with h|h
   · rcases List.mem_append.1 hm with hm|hm
     · exact(hv g h).1 hm
     · have:=(hv g h).2.1
       have:=(lw.2 g hm).1;omega
   · rcases List.mem_append.1 hm with hm|hm
     · have:=(hF.2 g hm).2
       omega
     · have:=(lw.2 g hm).2
       omega
 · refine⟨h3.os.trans (F8.os.trans C5.os),h3.tape.trans (F8.tape.trans C5.tape),h3.output.trans (F8.output.trans C5.output),by have:=h3.size;omega,fun b hb=> ?_⟩
   exact(keep b (by omega) (fun he=> by have:=(hv b he).2.2;omega)).trans (C5.heap b (by omega))
theorem q101{P:Program}(w:World){o:Oper}{a:Act}{K:Act->World->Prop}{Q:Exit->Act->World->Prop}(s x:Operand)(t:TypeId)
 (ho:o.op= .call {callee:= .builtin .append,args:=#[s,x],argTypes:=#[t,t]})
 (e:TypeId) (i:TypeInfo) (z:Value) (ht:P.underlying t=some (.slice e)) (hi:P.info? e=some i) (hz:i.zero=some z) (hsize:i.size=3) (hby:i.bytes=40) (hzs:z.cells.size=3)
 {W wr w1:World} {v:Value} {ks:List Tr} {tr:Tr} {v0 v1 v2:Value} {gx:Nat} (hs:a.eval s=v) (hG:Grow W wr e v ks) (hW:W.heap.size<=wr.heap.size) (C5:Ext wr w1) (hM:Made wr w1 e tr (.agg #[v0,v1,v2])) (F8:Ext w1 w)
 (hx:a.eval x= .slice (some ⟨gx,0,none⟩) 1 1) (hgx:w.heap[gx]? =some (.cells #[v0,v1,v2] e (0,0))) (hn:ks.length < 1099511627776)
 (h: ∀v' w',Grow W w' e v' (ks++ [tr])->Below W.heap.size wr w'->K (a.put o.dst v') w'):o.wp P a w K Q:=by
 obtain⟨xs,L,h1,h2,h3,h4⟩:=hG;have s1:=C5.size;have s2:=F8.size;have hown:w.ownsRow W.heap.size e 3 v ks.length xs:=j24 h1 (fun g hg=>(C5.trans F8).heap g (h1.lt g hg).2);obtain⟨v',w',hr,r1,r2,r3⟩:=y18 (P:=P) w W.heap.size t o.type e i z 3 40 ht hi hz hsize hby hzs (by decide) v ks.length xs hown ⟨gx,0,none⟩ 1 1 [v0,v1,v2] rfl (q60 hgx) (j54 hM) (by unfold maxLen;omega) (by omega) (by omega);obtain⟨g1,g2⟩:=Grow.step h2 h3 (fun g hg=>⟨h4 g hg,(h1.lt g hg).2,(h1.lt g hg).1⟩) h1.1 hW C5 hM F8 r1 r2 r3;unfold Oper.wp execOp;simp only[ho,resolve,invoke,builtin,Sem.run_bind,Sem.run_pure,Result.andThen_ok,List.map_toArray,List.map_cons,List.map_nil,hs,hx,hr];exact h v' w' g1 g2
theorem y86{P:Program}(w:World){ops:Array Oper}{o:Oper}{a:Act}{K:Act->World->Prop}{Q:Exit->Act->World->Prop}{E:Prop}(hgd:o.guard=none)(s x:Operand)(t:TypeId)
 (ho:o.op= .call {callee:= .builtin .append,args:=#[s,x],argTypes:=#[t,t]})
 (e:TypeId) (i:TypeInfo) (z:Value) (ht:P.underlying t=some (.slice e)) (hi:P.info? e=some i) (hz:i.zero=some z) (hsize:i.size=3) (hby:i.bytes=40) (hzs:z.cells.size=3)
 {W wr w1:World} {v:Value} {ks:List Tr} {tr:Tr} {v0 v1 v2:Value} {gx:Nat} (hs:a.eval s=v) (hG:Grow W wr e v ks) (hW:W.heap.size<=wr.heap.size) (C5:Ext wr w1) (hM:Made wr w1 e tr (.agg #[v0,v1,v2])) (F8:Ext w1 w)
 (hx:a.eval x= .slice (some ⟨gx,0,none⟩) 1 1) (hgx:w.heap[gx]? =some (.cells #[v0,v1,v2] e (0,0))) (hn:ks.length < 1099511627776)
 (h: ∀v' w',Grow W w' e v' (ks++ [tr])->Below W.heap.size wr w'->K (a.put o.dst v') w'):
 if Region.wanted o (yielded ops a.tmps)=true then Oper.wp P o a w K Q else E:=by
 have hw:Region.wanted o (yielded ops a.tmps)=true:=by simp[Region.wanted,hgd]
 rw[if_pos hw];exact q101 w s x t ho e i z ht hi hz hsize hby hzs hs hG hW C5 hM F8 hx hgx hn h
theorem InL.copy{w:World}{S:Nat->Prop}{b:Nat}: ∀{o:Nat} {ks:List Tr},InL w S b o ks-> ∃news:List Value,news.length=ks.length*3/\(∀j u,news[j]? =some u->w.cell? ⟨b,o+j,none⟩=some u)/\(∀u∈news,u.oneCell'=true)/\
 ∀(w':World) (S':Nat->Prop) (b' o':Nat),(∀x,S x->S' x/\w'.heap[x]? =w.heap[x]?)->(∀j u,news[j]? =some u->w'.cell? ⟨b',o'+j,none⟩=some u)->InL w' S' b' o' ks
 |o, [],_=>⟨[],rfl,(fun j u h=> by simp at h),(fun u h=> by simp at h),(fun _ _ _ _ _ _=> by unfold InL;trivial)⟩
 |o,t::ts,h=> by
  unfold InL at h;obtain⟨⟨v0,v1,v2,c0,c1,c2,ht⟩,qo⟩:=h;obtain⟨news,n1,n2,n3,n4⟩:=InL.copy qo;refine⟨v0::v1::v2::news,by simp[n1];omega,fun j u hu=> ?_,fun u hu=> ?_,fun w' S' b' o' hS hc=> ?_⟩
  · match j,hu with
    |0,hu=> simpa using(by simpa using hu:v0=u)▸c0
    |1,hu=> simpa using(by simpa using hu:v1=u)▸c1
    |2,hu=> simpa using(by simpa using hu:v2=u)▸c2
    |j+3,hu=>
     have:=n2 j u (by simpa using hu)
     rwa [show o+3+j=o+(j+3) by omega] at this
  · obtain⟨k,n,kids⟩:=t
    obtain⟨A,cap,hv,_⟩:=InT.mk_iff.1 ht;simp only[Value.agg.injEq,Array.mk.injEq,List.cons.injEq,and_true] at hv;obtain⟨rfl,rfl,rfl⟩:=hv;simp only[List.mem_cons] at hu;rcases hu with rfl|rfl|rfl|hu
    · rfl
    · rfl
    · rfl
    · exact n3 u hu
  · unfold InL
    refine⟨⟨v0,v1,v2,by simpa using hc 0 v0 rfl,hc 1 v1 rfl,hc 2 v2 rfl,ht.mono (fun x hx=>(hS x hx).1) (fun x hx=>(hS x hx).2)⟩,n4 w' S' b' (o'+3) hS fun j u hu=> ?_⟩;have:=hc (j+3) u (by simpa using hu)
    rwa [show o'+(j+3)=o'+3+j by omega] at this
theorem j76{P:Program}(w:World){ops:Array Oper}{rest:List Oper}{o:Oper}{a:Act}{Q:Exit->Act->World->Prop}(hgd:o.guard=none)(s x:Operand)(t:TypeId)
 (ho:o.op= .call {callee:= .builtin .append,args:=#[s,x],argTypes:=#[t,t]})
 (e:TypeId) (i:TypeInfo) (z:Value) (ht:P.underlying t=some (.slice e)) (hi:P.info? e=some i) (hz:i.zero=some z) (hsize:i.size=3) (hby:i.bytes=40) (hzs:z.cells.size=3)
 {W:World} {v:Value} {A:Option Addr} {cap:Nat} {ks:List Tr} (hs:a.eval s=v) (hown:w.ownsRow W.heap.size e 3 v 0 []) (hE:Ext W w) (hx:a.eval x= .slice A ks.length cap) (ug:A=none->cap=0) {S:Nat->Prop} (hS: ∀b,S b->b < W.heap.size) (hK:InK W S A ks) (hn:ks.length<=1099511627776)
 (h: ∀B c' w',InK w' (fun b=> S b\/W.heap.size<=b/\b < w'.heap.size) B ks->ks.length<=c'->c'<=maxLen->Ext W w'->(B=none->c'=0)->wpList P ops Q rest (a.put o.dst (.slice B ks.length c')) w'):wpList P ops Q (o::rest) a w:=by
 refine wpList_plain hgd fun K hK'=> ?_
 have key: ∃v' w',(Builtin.append_ #[t,t] o.type #[v,.slice A ks.length cap]).run P w= .ok v' w'/\ ∃B c',v'= .slice B ks.length c'/\InK w' (fun b=> S b\/W.heap.size<=b/\b < w'.heap.size) B ks/\ks.length<=c'/\c'<=maxLen/\Ext W w'/\(B=none->c'=0):=by
  cases A with
  |none=>
   obtain rfl:=ug rfl;have hnil:ks= []:=by
    rcases hK with h|⟨b,o,h,_⟩
    · exact h
    · cases h
   subst hnil;have hr:=run_append_owned_none (P:=P) w W.heap.size t o.type e i 3 ht hi v 0 [] hown;refine⟨v,w,hr, ?_⟩;rcases hown.2 with⟨rfl,_⟩ |⟨g,c,cur,rfl,_,_,h1,h2,_⟩
   · exact⟨none,0,rfl,.inl rfl,Nat.le_refl _,Nat.zero_le _,hE,fun _=> rfl⟩
   · exact⟨_,c,rfl,.inl rfl,h1,h2,hE,fun h=> by cases h⟩
  |some ad=>
   have B6: ∀w',w.grownBy w' v.ownBlock->Ext W w':=fun w' hg=> hE.grown hg (fun k hk=>(hown.lt k hk).1)
   have hb: ∀(news:List Value),news.length=ks.length*3->(∀j u,news[j]? =some u->w.cell? (ad.add j)=some u)->(∀u∈news,u.oneCell'=true)->
    ∃v' w',(Builtin.append_ #[t,t] o.type #[v,.slice (some ad) ks.length cap]).run P w= .ok v' w'/\Ext W w'/\ ∃B c',v'= .slice B ks.length c'/\ks.length<=c'/\c'<=maxLen/\(B=none->c'=0)/\
     (ks≠ []-> ∃g,B=some ⟨g,0,none⟩/\W.heap.size<=g/\g < w'.heap.size/\ ∀j u,news[j]? =some u->w'.cell? ⟨g,0+j,none⟩=some u):=by
    intro news n1 n2 n3;obtain⟨v',w',hr,r1,r2,r3⟩:=y18 (P:=P) w W.heap.size t o.type e i z 3 40 ht hi hz hsize hby hzs (by decide) v 0 [] hown ad ks.length cap news n1 n2 n3 (by unfold maxLen;omega) (by omega) hE.size;refine⟨v',w',hr,B6 w' r2, ?_⟩;have hc:=fun g hg=> r1.cells (g:=g) hg
    have hlt:=r1.lt;rcases r1.2 with⟨rfl,h0⟩ |⟨g,c,cur,rfl,h5,h6,h1,h2,_⟩
    · exact⟨none,0,by rw[show ks.length=0 by omega],by omega,Nat.zero_le _,fun _=> rfl,fun hne=> absurd (List.eq_nil_of_length_eq_zero (by omega)) hne⟩
    · refine⟨_,c,by rw[Nat.zero_add],by omega,h2,fun h=> by(cases h),fun _=>⟨g,rfl,h5,j10 h6,fun j u hu=> ?_⟩⟩
      have:=hc g rfl j u (by simpa using hu)
      rwa [Addr.add_lit] at this
   rcases hK with rfl|⟨b,o,hab,hb',hl⟩
   · obtain⟨v',w',hr,hx,B,c',q1,q2,q3,q4,_⟩:=hb [] rfl (fun _ _ h=> by cases h) (fun _ h=> by cases h)
     exact⟨v',w',hr,B,c',q1,.inl rfl,q2,q3,hx,q4⟩
   · obtain rfl:=Option.some.inj hab
     obtain⟨news,n1,n2,n3,n4⟩:=hl.copy;obtain⟨v',w',hr,hx,B,c',q1,q2,q3,q4,q5⟩:=hb news n1 (fun j u hu=> by rw[Addr.add_lit];exact hE.cell (n2 j u hu)) n3;refine⟨v',w',hr,B,c',q1, ?_,q2,q3,hx,q4⟩;by_cases hne:ks= []
     · exact .inl hne
     · obtain⟨g,rfl,hg0,hg,hcell⟩:=q5 hne
       exact .inr ⟨g,0,rfl,.inr ⟨hg0,hg⟩,n4 w' _ g 0 (fun x Fx=>⟨.inl Fx,hx.heap x (hS x Fx)⟩) hcell⟩
 obtain⟨v',w',hr,B,c',rfl,r1,r2,r3,r4,r5⟩:=key;unfold Oper.wp execOp;simp only[ho,resolve,invoke,builtin,Sem.run_bind,Sem.run_pure,Result.andThen_ok,List.map_toArray,List.map_cons,List.map_nil,hs,hx,hr];exact hK' _ _ (h B c' w' r1 r2 r3 r4 r5)
def j63(ks:List Tr):Bool:=decide (ks.length<=8)&& !ks.any (fun t=> !valid sigT t)
theorem y183{ks:List Tr}(h:j63 ks=true):ks.length<=8/\ ∀t∈ks,valid sigT t=true:=by
 unfold j63 at h;rw[Bool.and_eq_true,decide_eq_true_eq] at h;refine⟨h.1,fun t ht=> ?_⟩;have h2:=h.2;simp only[Bool.not_eq_true',List.any_eq_false] at h2
 simpa using h2 t ht
def y130(t:Tr):Prop:= ∀(w:World) (t':Tr) (v v':Value),Lies w t v->Lies w t' v'->
 Calls Tryz.prog 7 #[v,v'] w fun e w'=> e= .returned (.bool (eqTr t t'))/\Ext w w'
theorem j183(ks ks':List Tr)(hk: ∀t∈ks,y130 t)(w:World)(A A':Option Addr)(cap cap':Nat)(h:y23 w A ks)(hl:ks.length<=cap)(hc:cap<=maxLen)(h':y23 w A' ks')(hl':ks'.length<=cap')(hc':cap'<=maxLen):
 Calls Tryz.prog 19 #[.slice A ks.length cap,.slice A' ks'.length cap',.func (.func 7) #[] #[]] w fun e w'=> e= .returned (.bool (eqTs ks ks'))/\Ext w w':=by
 unfold maxLen at hc hc';by_cases h0:ks.length=ks'.length
 · have hd:((ks.length:Int) !=(ks'.length:Int))=false:=by rw[h0];simp
   have H0:=hdq h0;clear h0;go_enter Tryz.func19,Tryz.ntmps19;go_wp2_with fail
   go_loopw [17] (fun i wr=> ∃j:Nat,j<=ks.length/\i= .int .i64 j/\eqTs ks ks'=eqTs (ks.drop j) (ks'.drop j)/\Ext w wr) (fun i _=> ks.length -(intOf i).toNat)
   case atStart=> exact⟨0,Nat.zero_le _,rfl,rfl,xr _⟩
   case round=>
    obtain⟨j,hj,rfl,hsz,hb⟩:=hrel;have HS:=hdq hsz;clear hsz;by_cases hlt:j < ks.length
    · have px:j < ks'.length:=by rw[<-H0.out];exact hlt
      obtain⟨b,o,k,n,B,c,kids,rfl,HK,c0,c1,c2,I6,G9,hK,j8,j6⟩:=h.get hb hlt;obtain⟨b',o',k',n',B',c',dn,rfl,Ng,c0',c1',c2',hkl',hkc',hK',C8,hmem'⟩:=h'.get hb px;have yg:=World.block_lt_of_cell? _ _ c0';have hstep:eqTs (ks.drop j) (ks'.drop j)=(eqTr (.mk k n kids) (.mk k' n' dn)&& eqTs (ks.drop (j+1)) (ks'.drop (j+1))):=by
       rw[List.drop_eq_getElem_cons hlt,List.drop_eq_getElem_cons px,HK.out,Ng.out]
       conv=> lhs;unfold eqTs
      have HST:=hdq hstep;clear hstep;go_wp2_with fail;refine(hk _ j6 _ (.mk k' n' dn) _ _ (j8.ext (((xr wr).alloc _).alloc _)) (C8.ext (((xr wr).alloc _).alloc _))).mono ?_;rintro e w1 ⟨rfl,hb1⟩;have hb2:=hb.trans hb1.pre.pre;generalize eqTr (.mk k n kids) (.mk k' n' dn)=q at HST;cases q with
      |false=>
       go_wp2_with fail;go_ret;exact⟨by rw[HS.out,HST.out];rfl,hb2⟩
      |true=>
       go_wp2_with fail
       go_roundw
       case rel=> exact⟨j+1,by omega,by go_num,by rw[HS.out,HST.out];rfl,hb2⟩
       case measure=> simp[intOf];omega
    · go_wp2_with fail
      go_ret;exact⟨by rw[HS.out,List.drop_of_length_le (by omega),List.drop_of_length_le (by rw[<-H0.out];omega)];rfl,hb⟩
 · have hd:((ks.length:Int) !=(ks'.length:Int))=true:=by rw[bne_iff_ne];omega
   have e:eqTs ks ks'=false:=by
    rw[Bool.eq_false_iff];intro he;exact h0 (y144 he)
   have E:=hdq e;clear e;go_enter Tryz.func19,Tryz.ntmps19;go_wp2_with fail;go_ret;exact⟨by rw[E.out];rfl,xr _⟩
theorem y38: ∀t:Tr,y130 t:=Tr.ind fun k n ks hk=> by
 intro w t' v v' h h';obtain⟨A,cap,rfl,hl,hc,hK⟩:=Lies.mk_iff.1 h;obtain⟨k',n',ks'⟩:=t';obtain⟨A',cap',rfl,hl',hc',hK'⟩:=Lies.mk_iff.1 h';clear h h';have HW:=fun W (hW:Ext w W)=> j183 ks ks' hk W A A' cap cap' (hK.ext hW) hl hc (hK'.ext hW) hl' hc'
 have HS:=hdq HW;clear HW;by_cases h1:k=k'
 · by_cases h2:n=n'
   · have e:eqTr (.mk k n ks) (.mk k' n' ks')=eqTs ks ks':=by simp[eqTr,h1,h2]
     have E:=hdq e;have d1:(k==k')=true:=by simp[h1]
     have d2:(n==n')=true:=by simp[h2]
     clear e h1 h2;go_enter Tryz.func7,Tryz.ntmps7;go_wp2_with fail;refine(HS.out _ (((xr w).alloc _).alloc _)).mono ?_;rintro e w1 ⟨rfl,hE⟩;go_wp2_with fail;go_ret;exact⟨by rw[E.out];rfl,hE.pre.pre⟩
   · have e:eqTr (.mk k n ks) (.mk k' n' ks')=false:=by simp[eqTr,h2]
     have E:=hdq e;have d1:(k==k')=true:=by simp[h1]
     have d2:(n==n')=false:=by simpa using h2
     clear e h1 h2;go_enter Tryz.func7,Tryz.ntmps7;go_wp2_with fail;go_ret;exact⟨by rw[E.out];rfl,((xr w).alloc _).alloc _⟩
 · have e:eqTr (.mk k n ks) (.mk k' n' ks')=false:=by simp[eqTr,h1]
   have E:=hdq e;have d1:(k==k')=false:=by simpa using h1
   clear e h1;go_enter Tryz.func7,Tryz.ntmps7;go_wp2_with fail;go_ret;exact⟨by rw[E.out];rfl,((xr w).alloc _).alloc _⟩
end Go.Proofs.YtbnkbepgmenblaaGreatDoor
