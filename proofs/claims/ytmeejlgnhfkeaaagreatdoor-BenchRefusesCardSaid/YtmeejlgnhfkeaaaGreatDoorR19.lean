/- Parts. -/
import Derived.Test.YtmeejlgnhfkeaaaGreatDoorR18
import Derived.Test.YtmeejlgnhfkeaaaGreatDoorR17
import Derived.Test.YtmeejlgnhfkeaaaGreatDoorR16
import Derived.Maps.AppendAt
namespace Go.Proofs.YtmeejlgnhfkeaaaGreatDoor
open Go.RowKit Go.Proofs.Tryz
set_option maxRecDepth 100000
set_option maxHeartbeats 16000000
theorem zdj {P:Program} {α:Type} (w:World) {ops:Array Oper} {rest:List Oper} {o:Oper} {a:Act} {Q:Exit→Act→World→Prop} (hgd:o.guard=none) (s x:Operand) (t:TypeId)
  (ho:o.op=.call { callee:=.builtin .append,args:=#[s,x],argTypes:=#[t,t] })
  (base:Nat) (e:TypeId) {k bytes:Nat} {z:Value} (ht:P.underlying t=some (.slice e)) (info:(P.info? e).map (fun i=>(i.zero,i.size,i.bytes))=some (some z,k,bytes))
  (hzs:z.cells.size=k) (hk:0<k) (hby:bytes≤1000)
  (enc:α→List Value) (hen:∀ x,(enc x).length=k) (h1:∀ x,∀ u∈enc x,u.oneCell'=true)
  (v:Value) (xs:List α) (hs:a.eval s=v) (hown:w.ownsRow base e k v xs.length (xs.flatMap enc)) (ad:Addr) (y:α) (c:Nat) (hx:a.eval x=.slice (some ad) 1 c)
  (hnews:∀ j u,(enc y)[j]?=some u→w.cell? (ad.add j)=some u) (hn:xs.length<100000000000) (hbase:base≤w.heap.size)
  (h:∀ v' w',w'.ownsRow base e k v' (xs++[y]).length ((xs++[y]).flatMap enc)→w.grownBy w' v.ownBlock→(v'.ownBlock=v.ownBlock∨v'.ownBlock=some w.heap.size)→wpList P ops Q rest (a.put o.dst v') w'):wpList P ops Q (o :: rest) a w:=by
 obtain ⟨i,hi,hz0,hz1,hz2⟩:=info_parts info;refine wpList_append_own_at w hgd s x t ho base e i z k bytes ht hi hz0 hz1 hz2 hzs hk v xs.length (xs.flatMap enc) hs hown ad 1 c (enc y) hx (by rw [hen];omega) hnews (h1 y) (by unfold maxLen;omega) ?_ hbase ?_
 ·exact Nat.le_trans (Nat.mul_le_mul (show xs.length+1≤100000000000 by omega) hby) (by decide)
 ·intro v' w' a1 a2 _ a4;refine h v' w' ?_ a2 a4;rw [List.length_append,List.flatMap_append];simpa using a1
theorem znh {α:Type} {k:Nat} {enc:α→List Value} {w w':World} {a:Option Addr} {n c:Nat} {xs:List α} {row:Option Nat} (h:SlcAt k enc w (.slice a n c) xs) (hg:w.grownBy w' row) (hne:∀ b o s,a=some ⟨b,o,s⟩→row≠some b):SlcAt k enc w' (.slice a n c) xs:=by
 obtain ⟨_,_,e,h1,h2,h3⟩:=h;cases e;refine ⟨a,c,rfl,h1,h2,h3.imp id ?_⟩;rintro ⟨b,o,rfl,hb,hc⟩;exact ⟨b,o,rfl,Nat.lt_of_lt_of_le hb hg.size,fun j x hx i u hu=>hg.cell (hc j x hx i u hu) (fun e=>hne b o none rfl e.symm)⟩
theorem zpm (p:List Ln) (pv:Value) (w:World) (hp:LinesAt w pv p) (hval:valP p=0) (R:Ending→World→Prop)
  (hR:∀ w' v,Grow w w'→OwnE w.heap.size w' v (mutM p p.length)→R (.returned v) w') :
  Calls Tryz.prog 242 #[pv] w R:=by
 have HP:=jH hp;have HR:=jH hR;have HV:=jH hval;have hp8:=(zba.1 hval).1;have HALL:=jH (zba.1 hval).2;obtain ⟨pa,pc,rfl,p1,p2,_⟩:=hp;clear hR hval
 go_enter func242,ntmps242
 go_wp2_with fail
 go_loopw [3,4,5,7,10,18] (fun out _ _ _ i _ wr=>∃ (k:Nat) (ov:Value),k≤p.length∧i=.int .i64 k∧ov=out∧Grow w wr∧wr.ownsRow w.heap.size 60 5 ov (mutM p k).length ((mutM p k).flatMap encE)) (fun _ _ _ _ i _ _=>p.length - (intOf i).toNat)
 case atStart=>exact ⟨0,_,Nat.zero_le _,rfl,rfl,Grow.refl _,World.ownsRow_nil _ _ _ _⟩
 case round=>
  obtain ⟨k,out,hk,rfl,rfl,hg,how⟩:=hrel;have HG:=jH hg;have HOW:=jH how;have hzw:=hg.sz;clear hg how;by_cases hlt:k<p.length
  ·obtain ⟨⟨op,d,a,b⟩,hx⟩:∃ x,p[k]?=some x:=⟨_,List.getElem?_eq_getElem hlt⟩;obtain ⟨gp,o,rfl,hgp,y0,y1,y2,y3⟩:=zbr (HP.out.grow HG.out) hx;have hlt2:(k:Int)<(p.length:Int):=by omega
   have hla:lineAt p (k:Int)=⟨op,d,a,b⟩:=by unfold lineAt;rw [show ((k:Int)).toNat=k by omega,hx];rfl
   have HOKL:=jH (show vL op d a b=true from HALL.out _ (List.mem_of_getElem? hx));have hlen:=znf HV.out k hk;have htl:=zsw (l:=⟨op,d,a,b⟩) HOKL.out;have hsc:=zhd p k;rw [hla] at hsc;obtain ⟨L,hL⟩:∃ L,tmpl ⟨op,d,a,b⟩=L:=⟨_,rfl⟩;rw [hL] at hsc htl;have HSC:=jH hsc;have HL:=jH hL;clear hx hla hsc hL;go_wp2_with fail;have hgb:=(Grow.refl wr).alloc (.cells #[.int .i64 op,.int .i64 d,.int .i64 a,.int .i64 b] 57);have hsW:(wr.alloc (.cells #[.int .i64 op,.int .i64 d,.int .i64 a,.int .i64 b] 57)).heap.size=wr.heap.size+1:=by simp
   generalize wr.alloc (.cells #[.int .i64 op,.int .i64 d,.int .i64 a,.int .i64 b] 57)=W at hgb hsW ⊢;have hszW:=hgb.sz;refine zgm op d a b _ HOKL.out _ ?_;intro w1 v1 hg1 hv1;rw [HL.out] at hv1;obtain ⟨hv1,hv1n⟩:=hv1;have HV1:=jH hv1;obtain ⟨a1,c1,rfl,q1,q2,_⟩:=hv1;have HNE:=jH (show ∀ b o s,a1=some ⟨b,o,s⟩→out.ownBlock≠some b from fun b o s h he=>by have h1:=hv1n b o s _ _ (by rw [h]);have h2:=(HOW.out.lt b he).2;omega)
   have HG1:=jH (HG.out.trans (hgb.trans hg1));have HO1:=jH ((hgb.trans hg1).owns HOW.out);have hz1:=(HG.out.trans (hgb.trans hg1)).sz;clear hgb hg1 y0 y1 y2 y3 HOW;go_wp2_with fail;obtain ⟨wo,hwo⟩:∃ z:World,z=wr:=⟨_,rfl⟩;clear hwo
   go_loopw [3,7,18] (fun out _ i wr=>∃ j:Nat,j≤L.length∧i=.int .i64 j∧Grow w wr∧LinesAt wr (.slice a1 L.length c1) L∧(∀ b o s,a1=some ⟨b,o,s⟩→out.ownBlock≠some b)∧wr.ownsRow w.heap.size 60 5 out (mutM p k++(L.take j).map (Ed.mk k)).length ((mutM p k++(L.take j).map (Ed.mk k)).flatMap encE)) (fun _ _ i _=>L.length - (intOf i).toNat)
   case atStart=>exact ⟨0,Nat.zero_le _,rfl,HG1.out,HV1.out,HNE.out,by simpa using HO1.out⟩
   case round=>
    obtain ⟨j,hj,rfl,hgw,hlw,hnw,how⟩:=hrel;have HGW:=jH hgw;have HLW:=jH hlw;have HNW:=jH hnw;have HOW:=jH how;have hzw2:=hgw.sz;clear hgw hlw hnw how HO1 HV1 HNE;by_cases hjl:j<L.length
    ·obtain ⟨⟨o2,d2,a2,b2⟩,hx⟩:∃ x,L[j]?=some x:=⟨_,List.getElem?_eq_getElem hjl⟩;obtain ⟨gA,oA,rfl,hgA,f0,f1,f2,f3⟩:=zbr HLW.out hx;have hjl2:(j:Int)<(L.length:Int):=by omega
     have HTK:=jH (show mutM p k++(L.take (j+1)).map (Ed.mk k)=(mutM p k++(L.take j).map (Ed.mk k))++[⟨(k:Int),⟨o2,d2,a2,b2⟩⟩] by rw [List.take_add_one,hx,List.map_append,List.append_assoc];rfl)
     have HLB:=jH (show (mutM p k++(L.take j).map (Ed.mk k)).length<100000000000 by rw [List.length_append,List.length_map,List.length_take];omega)
     have hgb1:=(Grow.refl wr).alloc (.cells #[.int .i64 o2,.int .i64 d2,.int .i64 a2,.int .i64 b2] 57);have hgb2:=hgb1.alloc (.cells #[.int .i64 (k:Int),.int .i64 o2,.int .i64 d2,.int .i64 a2,.int .i64 b2] 60);clear hx;go_wp2_with (at_builtin;refine zdj _ rfl (.tmp 22) (.tmp 26) 58 rfl w.heap.size 60 underlying58 zpp rfl (by decide) (by decide) encE zbh zhj _ (mutM p k++(L.take j).map (Ed.mk k)) rfl (hgb2.owns HOW.out) _ (⟨(k:Int),⟨o2,d2,a2,b2⟩⟩:Ed) 1 rfl (newsG _ _ (by simp) (encE ⟨(k:Int),⟨o2,d2,a2,b2⟩⟩) _) HLB.out (by simp;omega) ?_;intro out2 w4 hown2 hgr2 hat2)
     have HG4:=jH (show Grow w w4 from zae HOW.out hgr2 (Nat.le_refl _) (by simp;omega) (HGW.out.trans hgb2))
     have HL4:=jH (znh (HLW.out.grow hgb2) hgr2 HNW.out);have HN4:=jH (show ∀ b o s,(some (⟨gA,oA,none⟩:Addr))=some ⟨b,o,s⟩→out2.ownBlock≠some b from fun b o s h he=>by
      rcases hat2 with h2 | h2
      ·rw [h2] at he;exact HNW.out b o s h he
      ·rw [h2] at he;cases h;have:=Option.some.inj he;simp at this;omega)
     have HO2:=jH hown2;clear hown2 hgr2 hat2 f0 f1 f2 f3;go_roundw
     case rel=>exact ⟨j+1,by omega,by go_num,HG4.out,HL4.out,HN4.out,by rw [HTK.out];exact HO2.out⟩
     case measure=>simp [intOf];omega
    ·have hjn:j=L.length:=by omega
     have HO2:=HOW.out;rw [hjn,List.take_length,← HSC.out] at HO2;have HO3:=jH HO2;clear HO2 hjn;go_wp2_with fail;go_roundw
     case rel=>exact ⟨k+1,_,by omega,by go_num,rfl,HGW.out,HO3.out⟩
     case measure=>simp [intOf];omega
  ·have hkn:k=p.length:=by omega
   have HO2:=HOW.out;rw [hkn] at HO2;have hmb:=znf HV.out p.length (Nat.le_refl _);have HOE:=jH (OwnE.of_own HO2);clear HO2 hkn;go_wp2_with fail;refine zoi (mutM p p.length) (zrz p _) w.heap.size _ _ HOE.out (by omega) _ ?_
   intro w5 hb5 ho5;have HF:=jH (HR.out w5 _ (Below.trans HG.out hb5) ho5);clear hb5 ho5;go_wp2_with fail;exact HF.out
structure Lo (α:Type) where
 a:Option Addr
 n:Nat
 c:Nat
 x:List α
abbrev Lo.v {α:Type} (t:Lo α):Value:=.slice t.a t.n t.c
def encLo {α:Type} (t:Lo α):List Value:=[t.v]
theorem zaz {α:Type} (t:Lo α):(encLo t).length=1:=rfl
theorem zce {α:Type} (t:Lo α):∀ u∈encLo t,u.oneCell'=true:=by
 intro u hu;unfold encLo at hu;simp only [List.mem_cons,List.not_mem_nil,or_false] at hu;subst hu
 rfl
theorem lo_at {α:Type} {w:World} {a:Option Addr} {n c:Nat} {L:List (Lo α)} (h:SlcAt 1 encLo w (.slice a n c) L) {k:Nat} {t:Lo α} (hx:L[k]?=some t):∃ b o,a=some ⟨b,o,none⟩∧b<w.heap.size∧w.cell? ⟨b,o+k,none⟩=some (.slice t.a t.n t.c):=by
 obtain ⟨_,_,e,_,_,h⟩:=h;cases e;obtain ⟨b,o,rfl,hb,hc⟩:=h.resolve_left (by intro h0;rw [h0.1] at hx;simp at hx)
 exact ⟨b,o,rfl,hb,by simpa using hc k t hx 0 _ rfl⟩
theorem zry {base k:Nat} {α:Type} {enc:α→List Value} {w:World} {a:Option Addr} {n c:Nat} {xs:List α} (h:Own k enc base w (.slice a n c) xs):∀ b o s,a=some ⟨b,o,s⟩→base≤b∧b<w.heap.size:=by
 obtain ⟨e,h⟩:=h;intro b o s ha;subst ha;rcases h.2 with ⟨hv,_⟩ | ⟨g,cap,cur,hv,hg,hh,_⟩
 ·cases hv
 ·cases hv;exact ⟨hg,lt_of_block hh⟩
structure LoOwn {α:Type} (base:Nat) (T:TypeId) (k:Nat) (enc:α→List Value) (w:World) (v:Value) (L:List (Lo α)):Prop where
 row:w.ownsRow base T 1 v L.length (L.flatMap encLo)
 ins:∀ t∈L,SlcAt k enc w t.v t.x
 off:∀ t∈L,∀ b o s,t.a=some ⟨b,o,s⟩→v.ownBlock≠some b∧b<w.heap.size
theorem LoOwn.nil {α:Type} (base:Nat) (T:TypeId) (k:Nat) (enc:α→List Value) (w:World):LoOwn base T k enc w (.slice none 0 0) []:=⟨World.ownsRow_nil _ _ _ _,by simp,by simp⟩
theorem LoOwn.grow {α:Type} {base:Nat} {T:TypeId} {k:Nat} {enc:α→List Value} {w w':World} {v:Value} {L:List (Lo α)} (h:LoOwn base T k enc w v L) (g:Grow w w'):LoOwn base T k enc w' v L:=
 ⟨g.owns h.row,fun t ht=>(h.ins t ht).grow g,fun t ht b o s hb=>⟨(h.off t ht b o s hb).1,Nat.lt_of_lt_of_le (h.off t ht b o s hb).2 g.sz⟩⟩
theorem LoOwn.lt {α:Type} {base:Nat} {T:TypeId} {k:Nat} {enc:α→List Value} {w:World} {v:Value} {L:List (Lo α)} (h:LoOwn base T k enc w v L) {b:Nat} (hb:v.ownBlock=some b):b<w.heap.size:=(h.row.lt b hb).2
theorem LoOwn.at_ {α:Type} {base:Nat} {T:TypeId} {k:Nat} {enc:α→List Value} {w:World} {v:Value} {L:List (Lo α)} (h:LoOwn base T k enc w v L):SlcAt 1 encLo w v L:=zaa zaz h.row
theorem LoOwn.new {α:Type} {base:Nat} {T:TypeId} {k:Nat} {enc:α→List Value} {w w':World} {v:Value} {L:List (Lo α)} (h:LoOwn base T k enc w v L) {β:Type} {k2:Nat} {enc2:β→List Value} {a:Option Addr} {n c:Nat} {xs:List β} (ho:Own k2 enc2 w.heap.size w' (.slice a n c) xs):∀ b o s,a=some ⟨b,o,s⟩→v.ownBlock≠some b∧b<w'.heap.size:=by
 intro b o s hb;obtain ⟨h1,h2⟩:=zry ho b o s hb;exact ⟨fun he=>by have:=h.lt he;omega,h2⟩
theorem LoOwn.app {α:Type} {base:Nat} {T:TypeId} {k:Nat} {enc:α→List Value} {w w':World} {v v':Value} {L:List (Lo α)} {t:Lo α} (h:LoOwn base T k enc w v L) (hgr:w.grownBy w' v.ownBlock) (hown:w'.ownsRow base T 1 v' (L++[t]).length ((L++[t]).flatMap encLo)) (hat:v'.ownBlock=v.ownBlock∨v'.ownBlock=some w.heap.size)
  (ht:SlcAt k enc w t.v t.x) (hoff:∀ b o s,t.a=some ⟨b,o,s⟩→v.ownBlock≠some b∧b<w.heap.size):LoOwn base T k enc w' v' (L++[t]):=by
 have hall:∀ u∈L++[t],SlcAt k enc w u.v u.x∧∀ b o s,u.a=some ⟨b,o,s⟩→v.ownBlock≠some b∧b<w.heap.size:=by
  intro u hu;rcases List.mem_append.1 hu with hu | hu
  ·exact ⟨h.ins u hu,h.off u hu⟩
  ·simp at hu;subst hu;exact ⟨ht,hoff⟩
 refine ⟨hown,fun u hu=>znh (hall u hu).1 hgr fun b o s hb=>((hall u hu).2 b o s hb).1,fun u hu b o s hb=>?_⟩;obtain ⟨h1,h2⟩:=(hall u hu).2 b o s hb;refine ⟨fun he=>?_,Nat.lt_of_lt_of_le h2 hgr.size⟩;rcases hat with h3 | h3
 ·rw [h3] at he;exact h1 he
 ·rw [h3] at he;have:=Option.some.inj he;omega
end Go.Proofs.YtmeejlgnhfkeaaaGreatDoor
