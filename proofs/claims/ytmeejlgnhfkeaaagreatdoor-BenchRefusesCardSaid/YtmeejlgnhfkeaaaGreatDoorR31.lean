
import Derived.Test.YtmeejlgnhfkeaaaGreatDoorR22
import Derived.Test.YtmeejlgnhfkeaaaGreatDoorR23
import Derived.Maps.OwnSet
import Derived.Maps.Views
import Derived.StringKeys
import Derived.ProofKit
namespace Go.Proofs.YtmeejlgnhfkeaaaGreatDoor
open Go.RowKit Go.Proofs.Tryz
set_option maxRecDepth 100000
set_option maxHeartbeats 4000000
open Go.Maps (Keyed)
theorem lawS:Keyed Tryz.prog 9:=Go.Maps.string_keyed underlying9
def agR (v:Value):Option (DataW Value × List MemPlace):=match v with | .agg c=>some (.held (.agg c),[]) | _=>none
theorem zgj (c:Array Value):agR (.agg c)=some (.held (.agg c),[]):=rfl
theorem agR_inv {v:Value} {y:DataW Value × List MemPlace} (h:agR v=some y):∃ c,v=.agg c∧y=(.held (.agg c),[]):=by
 unfold agR at h
 split at h
 ·exact ⟨_,rfl,(Option.some.inj h).symm⟩
 ·cases h
def fmV (k n:Int):Value:=.agg #[.int .i64 k,.int .i64 n]
theorem zjt (w:World):(zeroValue 176).run Tryz.prog w=.ok (fmV 0 0) w:=by kernel_rfl
def tx (s:ByteArray):Lit:=.string s.data.toList
theorem zgo (s:ByteArray) (h:s.size≤maxLen):keyOf Tryz.prog 9 (.string s)=some (tx s):=Go.WideMaps.keyOf_string_mk underlying9 h
theorem tx_inj {a b:ByteArray} (h:tx a=tx b):a=b:=by
 unfold tx at h;have h1:a.data.toList=b.data.toList:=by injection h
 have h2:a.data=b.data:=Array.toList_inj.1 h1;cases a;cases b;simp_all
def formD:DataW Value:=(((((((DataW.map []).put (tx wPut) (.held (fmV 0 5))).put (tx wUndo) (.held (fmV 1 0))).put (tx wTest) (.held (fmV 2 6))).put (tx wForget) (.held (fmV 3 1))).put (tx wLock) (.held (fmV 4 1))).put (tx wFix) (.held (fmV 5 0))).put (tx wCheck) (.held (fmV 6 0))
theorem zbo {H:Type} {P:Program} (w:World) {ops:Array Oper} {rest:List Oper} {o:Oper} {a:Act} {Q:Exit→Act→World→Prop}
  (hg:o.guard=none) (m x v:Operand) (t:TypeId) (hop:o.op=Op.insert t m x v)
  (k e:TypeId) (K:Keyed P k) (ht:P.underlying t=some (.map k e)) (R:Value→Option (DataW H × List MemPlace)) (b n:Nat) (D:DataW H)
  (hm:a.eval m=.map (some b)) (hown:w.ownsMap P k R b n D) (hn:n<maxLen) (key val:Value) (kl:Lit) (hx:a.eval x=key) (hv:a.eval v=val) (hkey:keyOf P k key=some kl)
  (d:DataW H) (ps:List MemPlace) (hval:R val=some (d,ps))
  (hK:∀ w',w'.ownsMap P k R b (n+1) (D.put kl d)→w.grownBy w' (some b)→wpList P ops Q rest (a.put o.dst undef) w') :
  wpList P ops Q (o :: rest) a w:=by
 refine wpList_plain hg fun K' hK'=>?_;obtain ⟨w',hrun,r1,r2⟩:=hown.update K ht hn hkey hval;unfold Oper.wp;simp [execOp,hop,hm,hx,hv,hrun,Result.andThen];exact hK' _ _ (hK w' r1 r2)
theorem zee {w w' a:World} {b:Nat} (hg:w.grownBy w' (some b)) (hb:a.heap.size≤b) (ha:Grow a w):Grow a w':=Below.grown (show Below a.heap.size a w from ha) hg ha.sz (fun k hk=>by injection hk with hk;omega)
theorem zop (w:World) (R:Ending→World→Prop) (hR:∀ w' b,Grow w w'→w'.ownsMap Tryz.prog 9 agR b 7 formD→R (.returned (.map (some b))) w') :
  Calls Tryz.prog 116 #[] w R:=by
 have HR:=jH hR;have hmm:=@run_makeMap Tryz.prog;have HO:=jH (show (w.alloc (.map #[] 0)).ownsMap Tryz.prog 9 agR w.heap.size 0 (.map []) from World.ownsMap_made _ _ _ _);have HG:=jH ((Grow.refl w).alloc (.map #[] 0));have hlaw:=lawS;clear hR
 go_enter func116,ntmps116
 go_wp2_with (refine zbo _ rfl (.tmp 1) _ _ 178 rfl 9 176 hlaw underlying178 agR w.heap.size 0 (DataW.map []) rfl HO.out (by decide) _ _ (tx wPut) rfl rfl (zgo wPut (by decide)) (.held (fmV 0 5)) [] (zgj _) ?_)
 intro w1 hown hgr;have HO:=jH hown;have HG:=jH (zee hgr (Nat.le_refl _) HG.out);clear hown hgr;go_wp2_with (refine zbo _ rfl (.tmp 1) _ _ 178 rfl 9 176 hlaw underlying178 agR w.heap.size 1 ((DataW.map []).put (tx wPut) (.held (fmV 0 5))) rfl HO.out (by decide) _ _ (tx wUndo) rfl rfl (zgo wUndo (by decide)) (.held (fmV 1 0)) [] (zgj _) ?_)
 intro w2 hown hgr;have HO:=jH hown;have HG:=jH (zee hgr (Nat.le_refl _) HG.out);clear hown hgr;go_wp2_with (refine zbo _ rfl (.tmp 1) _ _ 178 rfl 9 176 hlaw underlying178 agR w.heap.size 2 (((DataW.map []).put (tx wPut) (.held (fmV 0 5))).put (tx wUndo) (.held (fmV 1 0))) rfl HO.out (by decide) _ _ (tx wTest) rfl rfl (zgo wTest (by decide)) (.held (fmV 2 6)) [] (zgj _) ?_)
 intro w3 hown hgr;have HO:=jH hown;have HG:=jH (zee hgr (Nat.le_refl _) HG.out);clear hown hgr;go_wp2_with (refine zbo _ rfl (.tmp 1) _ _ 178 rfl 9 176 hlaw underlying178 agR w.heap.size 3 ((((DataW.map []).put (tx wPut) (.held (fmV 0 5))).put (tx wUndo) (.held (fmV 1 0))).put (tx wTest) (.held (fmV 2 6))) rfl HO.out (by decide) _ _ (tx wForget) rfl rfl (zgo wForget (by decide)) (.held (fmV 3 1)) [] (zgj _) ?_)
 intro w4 hown hgr;have HO:=jH hown;have HG:=jH (zee hgr (Nat.le_refl _) HG.out);clear hown hgr;go_wp2_with (refine zbo _ rfl (.tmp 1) _ _ 178 rfl 9 176 hlaw underlying178 agR w.heap.size 4 (((((DataW.map []).put (tx wPut) (.held (fmV 0 5))).put (tx wUndo) (.held (fmV 1 0))).put (tx wTest) (.held (fmV 2 6))).put (tx wForget) (.held (fmV 3 1))) rfl HO.out (by decide) _ _ (tx wLock) rfl rfl (zgo wLock (by decide)) (.held (fmV 4 1)) [] (zgj _) ?_)
 intro w5 hown hgr;have HO:=jH hown;have HG:=jH (zee hgr (Nat.le_refl _) HG.out);clear hown hgr;go_wp2_with (refine zbo _ rfl (.tmp 1) _ _ 178 rfl 9 176 hlaw underlying178 agR w.heap.size 5 ((((((DataW.map []).put (tx wPut) (.held (fmV 0 5))).put (tx wUndo) (.held (fmV 1 0))).put (tx wTest) (.held (fmV 2 6))).put (tx wForget) (.held (fmV 3 1))).put (tx wLock) (.held (fmV 4 1))) rfl HO.out (by decide) _ _ (tx wFix) rfl rfl (zgo wFix (by decide)) (.held (fmV 5 0)) [] (zgj _) ?_)
 intro w6 hown hgr;have HO:=jH hown;have HG:=jH (zee hgr (Nat.le_refl _) HG.out);clear hown hgr;go_wp2_with (refine zbo _ rfl (.tmp 1) _ _ 178 rfl 9 176 hlaw underlying178 agR w.heap.size 6 (((((((DataW.map []).put (tx wPut) (.held (fmV 0 5))).put (tx wUndo) (.held (fmV 1 0))).put (tx wTest) (.held (fmV 2 6))).put (tx wForget) (.held (fmV 3 1))).put (tx wLock) (.held (fmV 4 1))).put (tx wFix) (.held (fmV 5 0))) rfl HO.out (by decide) _ _ (tx wCheck) rfl rfl (zgo wCheck (by decide)) (.held (fmV 6 0)) [] (zgj _) ?_)
 intro w7 hown hgr;have HO:=jH hown;have HG:=jH (zee hgr (Nat.le_refl _) HG.out);clear hown hgr;have HF:=jH (HR.out w7 w.heap.size HG.out HO.out);go_wp2_with fail;exact HF.out
def formL:List (Lit × DataW Value):=[(tx wCheck,.held (fmV 6 0)),(tx wFix,.held (fmV 5 0)),(tx wForget,.held (fmV 3 1)),(tx wLock,.held (fmV 4 1)),(tx wPut,.held (fmV 0 5)),(tx wTest,.held (fmV 2 6)),(tx wUndo,.held (fmV 1 0))]
theorem formD_eq:formD=.map formL:=by rfl
theorem zww (a b:ByteArray):(tx a).sameKey (tx b)=decide (a=b):=by
 unfold tx Lit.sameKey;by_cases h:a=b
 ·subst h;simp
 ·rw [decide_eq_false h,beq_eq_false_iff_ne];intro e;exact h (tx_inj (by unfold tx;rw [e]))
def formV (w:ByteArray):Value:=match formB w with | some (k,n)=>fmV k n | none=>fmV 0 0
theorem zha (w:ByteArray):Maps.has formD (tx w)=(formB w).isSome∧formD.atKey (tx w) (.held (fmV 0 0))=.held (formV w):=by
 rw [formD_eq];by_cases h0:w=wPut
 ·subst h0;exact ⟨rfl,rfl⟩
 by_cases h1:w=wUndo
 ·subst h1;exact ⟨rfl,rfl⟩
 by_cases h2:w=wTest
 ·subst h2;exact ⟨rfl,rfl⟩
 by_cases h3:w=wForget
 ·subst h3;exact ⟨rfl,rfl⟩
 by_cases h4:w=wLock
 ·subst h4;exact ⟨rfl,rfl⟩
 by_cases h5:w=wFix
 ·subst h5;exact ⟨rfl,rfl⟩
 by_cases h6:w=wCheck
 ·subst h6;exact ⟨rfl,rfl⟩
 have hn:formB w=none:=by
  unfold formB;rw [if_neg h0,if_neg h1,if_neg h2,if_neg h3,if_neg h4,if_neg h5,if_neg h6]
 have e:∀ a,a≠w→decide (a=w)=false:=fun a h=>decide_eq_false h;unfold formV;rw [hn];constructor
 ·rw [Maps.has_eq];unfold formL;simp only [List.any_cons,List.any_nil,zww];rw [e _ (Ne.symm h0),e _ (Ne.symm h1),e _ (Ne.symm h2),e _ (Ne.symm h3),e _ (Ne.symm h4),e _ (Ne.symm h5),e _ (Ne.symm h6)];rfl
 ·unfold formL DataW.atKey;simp only [List.find?_cons,List.find?_nil,zww];rw [e _ (Ne.symm h0),e _ (Ne.symm h1),e _ (Ne.symm h2),e _ (Ne.symm h3),e _ (Ne.symm h4),e _ (Ne.symm h5),e _ (Ne.symm h6)]
theorem zgt {H:Type} {P:Program} {ops:Array Oper} {o:Oper} {a:Act} {w:World} {K':Act→World→Prop} {Q:Exit→Act→World→Prop} {E:Prop} (hg:o.guard=none) (m x:Operand) (t:TypeId) (hop:o.op=Op.lookup t m x true)
  (k e:TypeId) (K:Keyed P k) (ht:P.underlying t=some (.map k e)) (R:Value→Option (DataW H × List MemPlace)) {z:Value} (hz:(zeroValue e).run P w=.ok z w) (zd:DataW H) (zp:List MemPlace) (hzd:R z=some (zd,zp)) (b n:Nat) (D:DataW H)
  (hm:a.eval m=.map (some b)) (hown:w.ownsMap P k R b n D) (key:Value) (kl:Lit) (hx:a.eval x=key) (hkey:keyOf P k key=some kl)
  (hK:∀ v ps,R v=some (D.atKey kl zd,ps)→K' (a.put o.dst (.tuple #[v,.bool (Maps.has D kl)])) w) :
  if Region.wanted o (yielded ops a.tmps)=true then Oper.wp P o a w K' Q else E:=by
 have hw:Region.wanted o (yielded ops a.tmps)=true:=by simp [Region.wanted,hg]
 rw [if_pos hw];obtain ⟨v,ps,hrun,hv⟩:=hown.look_ok K ht hz hzd hkey;unfold Oper.wp;simp [execOp,hop,hm,hx,hrun,Result.andThen];exact hK v ps hv
end Go.Proofs.YtmeejlgnhfkeaaaGreatDoor
