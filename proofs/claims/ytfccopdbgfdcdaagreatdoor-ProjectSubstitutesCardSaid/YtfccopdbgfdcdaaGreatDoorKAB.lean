/- Parts of the proof, joined. No condition. -/
import Derived.Test.YtfccopdbgfdcdaaGreatDoorKAA
import Derived.Great.BuildSlice
set_option linter.unusedSimpArgs false
set_option linter.unusedVariables false
namespace Go.Proofs.YtfccopdbgfdcdaaGreatDoor
open Go.RowKit
section
variable {P:Program} {ti:TI} {B:Nat->Prop} {R:PH} {γ:List Gh} {L:List Ob} {w:World}
theorem cob_ {b o:Nat} {vs:Array Value} {E:TypeId} {f:Nat × Nat} (h:w.heap[b]?=some (.cells vs E f)):w.cell? ⟨b,o,none⟩=vs[o]?:=by
 simp [World.cell?,h]
theorem CZ {t:TypeId} {c:Bool} (h:OM P t=some c):(isAgg t).run P w = .ok c w:=by
 unfold OM at h
 split at h<;>first|(cases h;done)|(injection h with h;subst h)
 ·rename_i e;simp [isAgg,underlying,program,Sem.run,e]
 ·rename_i e;simp [isAgg,underlying,program,Sem.run,e]
 ·rename_i d h1 h2 e
  simp [isAgg,underlying,program,Sem.run,e]
theorem OL {t:TypeId} (h:OM P t=some true) : ∃ d,P.underlying t=some d/\d.isRow=true:=by
 unfold OM at h
 split at h<;>first|(cases h;done)|skip
 ·rename_i e;exact ⟨_,e,rfl⟩
 ·rename_i e;exact ⟨_,e,rfl⟩
theorem oP {t:TypeId} {b o:Nat} {u:Value} (h:OM P t=some false) (hc:w.cell? ⟨b,o,none⟩=some u):(Instr.loadAt t (.pointer (some ⟨b,o,none⟩))).run P w = .ok u w:=by
 simp [Instr.loadAt,Instr.sureAddr,loadVar,CZ h,run_load,hc]
theorem p8 {t:TypeId} {b o n:Nat} {cs:List Value} (h:OM P t=some true) (hn:gT P t=some n) (hl:cs.length=n) (hc : ∀ (j:Nat) u,cs[j]?=some u->w.cell? ⟨b,o+j,none⟩=some u) :
  (Instr.loadAt t (.pointer (some ⟨b,o,none⟩))).run P w = .ok (.agg cs.toArray) w:=by
 obtain ⟨d,hd,hr⟩:=OL h
 have:=run_loadVar_mid (P:=P) w b o t cs d hc hd hr (by rw [hl];exact hn)
 simp [Instr.loadAt,Instr.sureAddr,this]
theorem zF (hti:TIok P ti) (hi:Inv B R γ L w) {t:TypeId} {va v:AV} {φ:Prop} {u1:Value} (h1:va.rep R γ L u1) (h:kg ti L t va=some (v,φ)) (hφ:φ) :
  ∃ u,(Instr.loadAt t u1).run P w = .ok u w/\v.rep R γ L u:=by
 unfold kg at h
 split at h
 ·rename_i cs
  cases h1 with
  | ref b o cs cv hr he =>
   split at h
   ·rename_i ht
    split at h
    ·rename_i x rest
     injection h with h;injection h with e1 e2;subst e1 e2
     exact ⟨cv 0,oP (hti.agg _ _ ht) (by have:=hr 0 (by simp);exact hi.val _ _ _ this),he 0 x rfl⟩
    ·cases h
   ·rename_i n ht hn
    injection h with h;injection h with e1 e2;subst e1 e2
    refine ⟨.agg ((List.range n).map cv).toArray,p8 (hti.agg _ _ ht) (hti.size _ _ hn) (by simp) ?_,_,rfl,by simp;omega,?_⟩
    ·intro j u hu
     rw [ad6] at hu
     by_cases hj:j<n
     ·rw [List.getElem?_range hj] at hu
      injection hu with hu;subst hu
      exact hi.val _ _ _ (hr j (by omega))
     ·rw [aeu (by simp;omega)] at hu;cases hu
    ·intro j u x hu hx
     simp only [List.getElem?_toArray,ad6] at hu hx
     by_cases hj:j<n
     ·rw [List.getElem?_range hj] at hu
      injection hu with hu;subst hu
      rw [aeb,if_pos hj] at hx
      cases hy:cs[j]? with
      | none=>simp [hy] at hx
      | some y=>simp [hy] at hx;subst hx;exact he j y hy
     ·rw [aeu (by simp;omega)] at hu;cases hu
   ·cases h
 ·rename_i id off
  obtain ⟨b,rfl,hg⟩:=h1
  split at h
  ·rename_i cs hL
   obtain ⟨⟨vs,E,hb,hs,hv⟩,_⟩:=hi.obj id _ _ hL hg
   split at h
   ·rename_i ht
    split at h
    case h_2=>cases h
    ·rename_i x hc
     injection h with h;injection h with e1 e2;subst e1 e2
     have hlt:off<vs.size:=by rw [hs];exact (adI.1 hc).1
     have hu:vs[off]?=some vs[off]:=ad8 hlt
     exact ⟨vs[off],oP (hti.agg _ _ ht) (by rw [cob_ hb];exact hu),hv off _ x hu hc⟩
   ·rename_i n ht hn
    injection h with h;injection h with e1 e2;subst e1 e2
    refine ⟨.agg ((vs.toList.drop off).take n).toArray,p8 (hti.agg _ _ ht) (hti.size _ _ hn) (by simp;omega) ?_,_,rfl,by simp;omega,?_⟩
    ·intro j u hu
     rw [cob_ hb]
     rw [aeb] at hu
     split at hu
     ·rw [aes] at hu;simpa using hu
     ·cases hu
    ·intro j u x hu hx
     simp only [List.getElem?_toArray] at hu
     rw [aeb] at hu hx
     split at hu
     ·rename_i hj
      rw [if_pos hj] at hx
      rw [aes] at hu hx
      exact hv (off+j) u x (by simpa using hu) hx
     ·cases hu
   ·cases h
  ·cases h
 ·rename_i id ver i o
  obtain ⟨_,hlt,h1⟩:=h1
  split at h
  case h_2=>cases h
  rename_i ver' es k hL
  split at h
  ·rename_i e he ht
   split at h
   case h_2=>cases h
   rename_i x hx
   injection h with h;injection h with e1 e2;subst e1 e2
   subst hφ
   obtain ⟨hi2,g,hg,hat⟩:=(h1 _ es k hL).2 rfl
   have hob:=hi.obj id _ _ hL hg
   match g,hat,hob with
   | .arr b c,hat,⟨⟨vs,E,⟨hb,hE65⟩,hs,hv⟩,hc,hk,hw,hR⟩ =>
    have hat:u1 = .pointer (some ⟨b,i*k+o,none⟩):=hat
    subst hat
    have ho:o<k:=by rw [<- hw e (adO he)];exact (adI.1 hx).1
    have hlt2:i*k+o<vs.size:=by
     rw [hs]
     have:(i+1)*k<=c*k:=aei _ (by omega)
     rw [Nat.succ_mul] at this;omega
    have hu:vs[i*k+o]?=some vs[i*k+o]:=ad8 hlt2
    exact ⟨vs[i*k+o],oP (hti.agg _ _ ht) (by rw [cob_ hb];exact hu),hv i e o _ x he hu hx⟩
  ·rename_i e n he ht hn
   injection h with h;injection h with e1 e2;subst e1 e2
   obtain ⟨hve,hle⟩:=hφ
   subst hve
   obtain ⟨hi2,g,hg,hat⟩:=(h1 _ es k hL).2 rfl
   have hob:=hi.obj id _ _ hL hg
   match g,hat,hob with
   | .arr b c,hat,⟨⟨vs,E,⟨hb,hE65⟩,hs,hv⟩,hc,hk,hw,hR⟩ =>
    have hat:u1 = .pointer (some ⟨b,i*k+o,none⟩):=hat
    subst hat
    have hek:=hw e (adO he)
    have hlt2:i*k+k<=vs.size:=by
     rw [hs]
     have:(i+1)*k<=c*k:=aei _ (by omega)
     rw [Nat.succ_mul] at this;omega
    refine ⟨.agg ((vs.toList.drop (i*k+o)).take n).toArray,p8 (hti.agg _ _ ht) (hti.size _ _ hn) (by simp;omega) ?_,_,rfl,by simp;omega,?_⟩
    ·intro j u hu
     rw [cob_ hb]
     rw [aeb] at hu
     split at hu
     ·rw [aes] at hu;simpa using hu
     ·cases hu
    ·intro j u x hu hx
     simp only [List.getElem?_toArray] at hu
     rw [aeb] at hu hx
     split at hu
     ·rename_i hj
      rw [if_pos hj] at hx
      rw [aes] at hu hx
      exact hv i e (o+j) u x he (by rw [<- Nat.add_assoc];simpa using hu) hx
     ·cases hu
  ·cases h
 ·cases h
theorem uR {s:TypeId} {i o:Nat} {t:TypeId} (h:zX P s i=some (o,t)) : ∃ fs f,P.underlying s=some (.struct fs)/\fs[i]?=some f/\f.offset=o/\f.type=t:=by
 unfold zX at h
 split at h
 ·rename_i fs e
  cases hf:fs[i]? with
  | none=>simp [hf] at h
  | some f =>
   simp [hf] at h
   exact ⟨fs,f,e,hf,h.1,h.2⟩
 ·cases h
theorem run_sizeOf {t:TypeId} {n:Nat} (h:gT P t=some n):(sizeOf t).run P w = .ok n w:=by
 unfold gT at h
 cases hi:P.info? t with
 | none=>simp [hi] at h
 | some i=>simp [hi] at h;simp [sizeOf,typeInfo,program,Sem.run,hi,h]
theorem xY {s:TypeId} {i o:Nat} {t:TypeId} {b f:Nat} (h:zX P s i=some (o,t)) (h0:gT P t≠some 0) (h1:(gT P t).isSome) :
  (Instr.fieldAt s (.pointer (some ⟨b,f,none⟩)) i).run P w = .ok (.pointer (some ⟨b,f+o,none⟩)) w:=by
 obtain ⟨fs,fd,e1,e2,e3,e4⟩:=uR h
 obtain ⟨n,hn⟩:=aen.1 h1
 have hn0:n≠0:=fun e=>h0 (by rw [hn,e])
 subst e3 e4
 simp [Instr.fieldAt,underlying,program,Sem.run,e1,e2,Instr.sureAddr,fieldPlace,run_sizeOf hn,hn0,Addr.add_mid]
theorem Ai (hti:TIok P ti) {s:TypeId} {i:Nat} {va v:AV} {φ:Prop} {u1:Value} (h1:va.rep R γ L u1) (h:kD ti s i va=some (v,φ)) (hφ:φ) :
  ∃ u,(Instr.fieldAt s u1 i).run P w = .ok u w/\v.rep R γ L u:=by
 unfold kD at h
 split at h
 ·rename_i cs
  cases h1 with
  | ref b o cs cv hr he =>
   split at h
   ·rename_i o' t hf
    split at h
    case h_2=>cases h
    rename_i n hn
    injection h with h;injection h with e1 e2;subst e1 e2
    have hle:=hφ
    have hn':=hti.size _ _ hn
    refine ⟨_,xY (hti.field _ _ _ hf) (by rw [hn'];simp) (by rw [hn'];rfl),?_⟩
    refine .ref b (o+o') _ (fun j=>cv (o'+j)) (fun j hj=>?_) (fun j x hx=>?_)
    ·rw [List.length_drop] at hj
     rw [Nat.add_assoc];exact hr _ (by omega)
    ·rw [aes] at hx;exact he _ _ hx
   ·cases h
 ·rename_i id off
  obtain ⟨b,rfl,hg⟩:=h1
  split at h
  ·rename_i o' t hf
   split at h
   case h_2=>cases h
   rename_i n hn
   injection h with h;injection h with e1 e2;subst e1 e2
   have hn':=hti.size _ _ hn
   exact ⟨_,xY (hti.field _ _ _ hf) (by rw [hn'];simp) (by rw [hn'];rfl),b,rfl,hg⟩
  ·cases h
 ·cases h
theorem Jf (hti:TIok P ti) {s:TypeId} {i:Nat} {va v:AV} {φ:Prop} {u1:Value} (h1:va.rep R γ L u1) (h:wN ti s i va=some (v,φ)) (hφ:φ) :
  ∃ u,(Instr.field s u1 i).run P w = .ok u w/\v.rep R γ L u:=by
 unfold wN at h
 split at h
 ·rename_i xs
  obtain ⟨vs,rfl,hs,hv⟩:=h1
  split at h
  ·rename_i o t hf
   obtain ⟨fs,fd,e1,e2,e3,e4⟩:=uR (hti.field _ _ _ hf)
   subst e3 e4
   split at h
   ·rename_i ht
    split at h
    case h_2=>cases h
    ·rename_i x hc
     injection h with h;injection h with e5 e6;subst e5 e6
     have hlt:fd.offset<vs.size:=by rw [hs];exact (adI.1 hc).1
     have hu:vs[fd.offset]?=some vs[fd.offset]:=ad8 hlt
     exact ⟨vs[fd.offset],by simp [Instr.field,underlying,program,Sem.run,e1,e2,asAgg,part,CZ (hti.agg _ _ ht),hu],hv _ _ x hu hc⟩
   ·rename_i n ht hn
    injection h with h;injection h with e5 e6;subst e5 e6
    refine ⟨.agg (vs.extract fd.offset (fd.offset+n)),by simp [Instr.field,underlying,program,Sem.run,e1,e2,asAgg,part,CZ (hti.agg _ _ ht),run_sizeOf (hti.size _ _ hn)],_,rfl,by simp;omega,?_⟩
    intro j u x hu hx
    rw [Array.getElem?_extract] at hu
    split at hu
    ·rw [aeb] at hx
     split at hx
     ·rw [aes] at hx;exact hv _ u x hu hx
     ·cases hx
    ·cases hu
   ·cases h
  ·cases h
 ·cases h
theorem lF {x:AV} {v:Value} {es:List (List AC)} (h:x.rep R γ L v) (he:eU x=some es):bH R v (.lst es):=by
 unfold eU at he
 split at he<;>first|(injection he with he;subst he)|(cases he;done)
 ·exact h
 ·exact h.1
 ·obtain ⟨a,rfl⟩:=h;exact fH _ _ _
theorem qU {t:TypeId} {n:Nat} (h:(sF P t).bind (gT P)=some n) : ∃ e,P.underlying t=some (.slice e)/\gT P e=some n:=by
 unfold sF at h
 split at h
 ·rename_i e he;exact ⟨e,he,h⟩
 ·cases h
theorem Ba (hti:TIok P ti) {t:TypeId} {vx vi v:AV} {φ:Prop} {u1 u2:Value} (h1:vx.rep R γ L u1) (h2:vi.rep R γ L u2) (h:iW ti t vx vi=some (v,φ)) (hφ:φ) :
  ∃ u,(Instr.indexAt t u1 u2).run P w = .ok u w/\v.rep R γ L u:=by
 unfold iW at h
 split at h
 ·rename_i es k0 i k hl ht
  have hp:=lF h1 hl
  cases h2
  obtain ⟨E,hE,hk⟩:=qU (hti.es ht)
  split at h
  ·rename_i e he
   injection h with h;injection h with e1 e2;subst e1 e2
   cases hp with
   | lst a n c _ k' cv b o hn hc hkk ha hr hx =>
    have hlt:i.toNat<es.length:=(adI.1 he).1
    have hmem:e∈es:=adO he
    obtain ⟨h0,hek⟩:=hφ
    have hkk':k'=k:=by rw [<- hkk e hmem];exact hek
    subst hkk'
    have ea:=ha (by omega)
    subst ea
    have hi2:i<(n:Int):=by omega
    refine ⟨.pointer (some ⟨b,o+i.toNat*k',none⟩),?_,?_⟩
    ·simp [Instr.indexAt,asIntOf,underlying,program,Sem.run,hE,h0,hi2,run_sizeOf hk,Addr.add_mid]
    ·refine .ref b _ e (fun j=>cv (i.toNat*k'+j)) (fun j hj=>?_) (fun j x hxj=>hx _ _ _ _ he hxj)
     rw [Nat.add_assoc]
     apply hr
     have h3:i.toNat*k'+k'<=n*k':=by
      have:(i.toNat+1)*k'<=n*k':=aei _ (by omega)
      rw [Nat.succ_mul] at this;exact this
     omega
  ·cases h
 ·cases h
theorem CE (hti:TIok P ti) (hi:Inv B R γ L w) {t:TypeId} {id ver lo n:Nat} {vi v:AV} {φ:Prop} {u1 u2:Value} (h1:(SV.sl id ver lo n).rep R γ L u1) (h2:vi.rep R γ L u2) (h:gu ti L t id ver lo n vi=some (v,φ)) (hφ:φ) :
  ∃ u,(Instr.indexAt t u1 u2).run P w = .ok u w/\v.rep R γ L u:=by
 unfold gu at h
 split at h
 case h_2=>cases h
 rename_i ver' es k' k0 i k hL ht
 injection h with h;injection h with e1 e2;subst e1 e2
 obtain ⟨⟨hv1,hv2⟩,h0,h3⟩:=hφ
 subst hv1 hv2
 cases h2
 obtain ⟨E,hE,hk⟩:=qU (hti.es ht)
 obtain ⟨_,hlt,h1⟩:=h1
 obtain ⟨hle,g,hg,hat⟩:=(h1 _ es k hL).2 rfl
 match g,hat with
 | .none,⟨_,hn,_⟩=>exact absurd h3 (by omega)
 | .arr b c,hat =>
  have hat:u1 = .slice (some ⟨b,lo*k,none⟩) n (c-lo):=by
   rcases hat with hat|⟨_,hn,_⟩
   ·exact hat
   ·exact absurd h3 (by omega)
  subst hat
  refine ⟨.pointer (some ⟨b,lo*k+i.toNat*k,none⟩),?_,⟨rfl,rfl⟩,hlt,fun ver2 es' k2 e=>?_⟩
  ·simp [Instr.indexAt,asIntOf,underlying,program,Sem.run,hE,h0,h3,run_sizeOf hk,Addr.add_mid]
  ·rw [hL] at e;injection e with e;injection e with e0 e1 e2;subst e0 e1 e2;refine ⟨adY _,fun _=>?_⟩
   refine ⟨by omega, .arr b c,hg,?_⟩
   show Value.pointer _=Value.pointer _
   rw [Nat.add_mul,Nat.add_zero]
theorem Cw (hti:TIok P ti) {s:TypeId} {i0 id ver i off:Nat} {v:AV} {φ:Prop} {u1:Value} (h1:(SV.ep id ver i off).rep R γ L u1) (h:gB ti L s i0 id ver i off=some (v,φ)) (hφ:φ) :
  ∃ u,(Instr.fieldAt s u1 i0).run P w = .ok u w/\v.rep R γ L u:=by
 unfold gB at h
 split at h
 case h_2=>cases h
 rename_i ver' es k o t hL hf
 split at h
 case h_2=>cases h
 rename_i n hn
 injection h with h;injection h with e1 e2;subst e1 e2
 subst hφ
 obtain ⟨_,hlt,h1⟩:=h1
 obtain ⟨hle,g,hg,hat⟩:=(h1 _ es k hL).2 rfl
 have hn':=hti.size _ _ hn
 match g,hat with
 | .arr b c,hat =>
  have hat:u1 = .pointer (some ⟨b,i*k+off,none⟩):=hat
  subst hat
  refine ⟨_,xY (hti.field _ _ _ hf) (by rw [hn'];simp) (by rw [hn'];rfl),⟨rfl,rfl⟩,hlt,fun ver2 es' k2 e=>?_⟩
  rw [hL] at e;injection e with e;injection e with e0 e1 e2;subst e0 e1 e2;refine ⟨adY _,fun _=>?_⟩
  refine ⟨hle, .arr b c,hg,?_⟩
  show Value.pointer _=Value.pointer _
  rw [Nat.add_assoc]
theorem EP (hti:TIok P ti) {t ty:TypeId} {id ver lo n:Nat} {v:AV} {φ:Prop} {u1:Value} (h1:(SV.sl id ver lo n).rep R γ L u1) (h:jO ti L t id ver n=some (v,φ)) (hφ:φ) :
  ∃ u,(Builtin.len_ #[t] ty #[u1]).run P w = .ok u w/\v.rep R γ L u:=by
 unfold jO at h
 split at h
 case h_2=>cases h
 rename_i ver' es k hL
 injection h with h;injection h with e1 e2;subst e1 e2
 obtain ⟨hv,hφ⟩:=hφ
 subst hv
 obtain ⟨_,hlt,h1⟩:=h1
 obtain ⟨hle,g,hg,hat⟩:=(h1 _ es k hL).2 rfl
 have ⟨e,he⟩ : ∃ e,P.underlying t=some (.slice e):=by
  obtain ⟨e,he⟩:=aen.1 hφ
  have h2:=hti.elem _ _ he
  unfold sF at h2
  split at h2
  ·rename_i e' he';exact ⟨e',he'⟩
  ·cases h2
 match g,hat with
 | .none,⟨hu,hn,_⟩ =>
  subst hu hn
  exact ⟨.int .i64 (0:Nat),by simp [Builtin.len_,underlying,program,Sem.run,he,goInt], .int _ _⟩
 | .arr b c,hat =>
  rcases hat with hat|⟨_,hn,a,hu⟩
  case inr=>subst hu hn;exact ⟨.int .i64 (0:Nat),by simp [Builtin.len_,underlying,program,Sem.run,he,goInt], .int _ _⟩
  subst hat
  exact ⟨.int .i64 n,by simp [Builtin.len_,underlying,program,Sem.run,he,goInt], .int _ _⟩
end
section
variable {P:Program} {ti:TI} {B:Nat->Prop} {R:PH} {γ:List Gh} {L:List Ob} {w:World}
theorem Gf (hti:TIok P ti) {t:TypeId} {vx vi v:AV} {φ:Prop} {u1 u2:Value} (h1:vx.rep R γ L u1) (h2:vi.rep R γ L u2) (h:tX ti t vx vi=some (v,φ)) (hφ:φ) :
  ∃ u,(Instr.index t u1 u2).run P w = .ok u w/\v.rep R γ L u:=by
 unfold tX at h
 split at h
 ·rename_i s k i
  cases h1;cases h2
  split at h
  ·rename_i b hb
   injection h with h;injection h with e1 e2;subst e1 e2
   obtain ⟨h0,hu⟩:=hφ
   exact ⟨.int .u8 b.toNat,by simp [Instr.index,asIntOf,underlying,program,Sem.run,hti.kind _ _ hu,h0,hb], .int _ _⟩
  ·cases h
 ·cases h
def Zk (R:PH) (γ:List Gh) (L:List Ob):Option AV->Option Value->Prop
 | none,none=>True
 | some x,some v=>x.rep R γ L v
 | _,_=>False
theorem gQ {s:Bool} {len cap:Nat} {lo hi:Option AV} {vlo vhi:Option Value} {l h:Int} (hlo:ny 0 lo=some l) (hhi:ny len hi=some h)
  (rlo:Zk R γ L lo vlo) (rhi:Zk R γ L hi vhi) (h0:0<=l) (h1:l<=h) (h2:h<=cap) :
  (Instr.sliceBounds s len cap vlo vhi none).run P w = .ok (l.toNat,h.toNat,cap) w:=by
 have e1 : ∀ (v:Value) (x:AV) (i:Int) (y:Nat) (c:BoundsCode),x.rep R γ L v->ny 0 (some x)=some i->0<=i->i<=y->(Instr.sliceBound v y c).run P w = .ok i.toNat w:=by
  intro v x i y c hx hb g0 g1
  unfold ny at hb
  split at hb
  ·rename_i e;cases e
  ·rename_i e
   injection e with e;subst e
   injection hb with hb;subst hb
   cases hx
   simp [Instr.sliceBound,asIntOf,g0,g1]
  ·cases hb
 match lo,vlo,rlo,hlo,hi,vhi,rhi,hhi with
 | none,none,_,hlo,none,none,_,hhi =>
  injection hlo with hlo;subst hlo
  injection hhi with hhi;subst hhi
  simp [Instr.sliceBounds]
 | some x,some v,rlo,hlo,none,none,_,hhi =>
  injection hhi with hhi;subst hhi
  simp [Instr.sliceBounds,e1 v x l len _ rlo hlo h0 (by omega)]
 | none,none,_,hlo,some y,some u,rhi,hhi =>
  injection hlo with hlo;subst hlo
  simp [Instr.sliceBounds,e1 u y h cap _ rhi (by cases y<;>first|exact hhi|(rename_i z;cases z<;>first|exact hhi|(rename_i q;cases q<;>exact hhi))) (by omega) h2]
 | some x,some v,rlo,hlo,some y,some u,rhi,hhi =>
  simp [Instr.sliceBounds,e1 u y h cap _ rhi (by cases y<;>first|exact hhi|(rename_i z;cases z<;>first|exact hhi|(rename_i q;cases q<;>exact hhi))) (by omega) h2,e1 v x l h.toNat _ rlo hlo h0 (by omega)]
theorem U8 {a:Option Addr} {n c l h:Nat} {es:List (List AC)} {k m:Nat} (hp:bH R (.slice a n c) (.lst es)) (hlh:l<=h) (hh:h<=es.length) (hk : ∀ e∈es,e.length=k) (hm:m=c) :
  bH R (.slice (if m=l then a else a.map (·.add (l*k))) (h-l) (m-l)) (.lst ((es.take h).drop l)):=by
 cases hp with
 | lst _ _ _ _ k' cv b o hn hc hkk ha hr hx =>
  subst hm
  have hlen:((es.take h).drop l).length=h-l:=by simp;omega
  by_cases hz:h-l=0
  ·rw [hz]
   have:(es.take h).drop l=[]:=ad9 (by omega)
   rw [this];exact fH _ _ _
  ·have hpos:0<n:=by omega
   have hkk':k'=k:=by
    have h0:0<es.length:=by omega
    rw [<- hkk es[0] (List.getElem_mem h0),hk es[0] (List.getElem_mem h0)]
   subst hkk'
   have ea:=ha hpos
   subst ea
   rw [if_neg (by omega)]
   refine .lst _ _ _ _ k' (fun j=>cv (l*k'+j)) b (o+l*k') hlen (by omega) (fun e he=>hk e (aeD (List.mem_of_mem_drop he))) (fun _=>by simp [Addr.add_mid]) (fun j hj=>?_) (fun i e j x he hxj=>?_)
   ·rw [Nat.add_assoc]
    apply hr
    have:l*k'+(h-l)*k'=h*k':=by rw [<- Nat.add_mul];congr 1;omega
    have:h*k'<=n*k':=aei _ (by omega)
    omega
   ·rw [aes,aeb] at he
    split at he
    ·have:=hx _ _ _ _ he hxj
     rw [Nat.add_mul,Nat.add_assoc] at this
     exact this
    ·cases he
theorem ko (hti:TIok P ti) (hI:Inv B R γ L w) {t:TypeId} {vx v:AV} {lo hi:Option AV} {vlo vhi:Option Value} {φ:Prop} {u1:Value} (h1:vx.rep R γ L u1) (rlo:Zk R γ L lo vlo) (rhi:Zk R γ L hi vhi)
  (h:gp ti L t vx lo hi=some (v,φ)) (hφ:φ) : ∃ u,(Instr.sliceAt t u1 vlo vhi none).run P w = .ok u w/\v.rep R γ L u:=by
 unfold gp at h
 split at h
 ·rename_i s
  cases h1
  split at h
  ·rename_i l h' hl hh
   injection h with h;injection h with e1 e2;subst e1 e2
   obtain ⟨a1,a2,a3,a4⟩:=hφ
   refine ⟨.string (s.extract l.toNat h'.toNat),?_, .str _⟩
   have:=gQ (P:=P) (w:=w) (s:=false) (cap:=s.size) hl hh rlo rhi a1 a2 (by omega)
   simp [Instr.sliceAt,Instr.slice,underlying,program,Sem.run,hti.kind _ _ a4,this]
  ·cases h
 ·rename_i id ver lo0 n
  split at h
  case h_2=>cases h
  rename_i ver' es k' k hL ht
  split at h
  case h_2=>cases h
  rename_i l h' hl hh
  injection h with h;injection h with e1 e2;subst e1 e2
  obtain ⟨hv,hkk,a1,a2,a3⟩:=hφ
  subst hv hkk
  obtain ⟨E,hE,hk⟩:=qU (hti.es ht)
  obtain ⟨_,hlt,h1⟩:=h1
  obtain ⟨hle,g,hg,hat⟩:=(h1 _ es k hL).2 rfl
  have hob:=hI.obj id _ _ hL hg
  match g,hat,hob with
  | .none,⟨hu,hn,hlo⟩,hob =>
   subst hu hn hlo
   have:=gQ (P:=P) (w:=w) (s:=true) (cap:=0) hl hh rlo rhi a1 a2 (by omega)
   have e1:l=0:=by omega
   have e2:h'=0:=by omega
   subst e1 e2
   refine ⟨_,by simp [Instr.sliceAt,Instr.slice,underlying,program,Sem.run,hE,this,run_sizeOf hk];rfl,⟨rfl,rfl⟩,hlt,fun ver2 es2 k2 e=>?_⟩
   rw [hL] at e;injection e with e;injection e with e0 e1 e2;subst e0 e1 e2;refine ⟨adY _,fun _=>?_⟩
   exact ⟨by simp, .none,hg,rfl,rfl,rfl⟩
  | .arr b c,hat,⟨_,hc,_⟩ =>
   rcases hat with hat|⟨hcl,hn,a,hu⟩
   case inr =>
    subst hu hn
    have:=gQ (P:=P) (w:=w) (s:=true) (cap:=0) hl hh rlo rhi a1 a2 (by omega)
    have e1:l=0:=by omega
    have e2:h'=0:=by omega
    subst e1 e2
    refine ⟨_,by simp [Instr.sliceAt,Instr.slice,underlying,program,Sem.run,hE,this,run_sizeOf hk];rfl,⟨rfl,rfl⟩,hlt,fun ver2 es2 k2 e=>?_⟩
    rw [hL] at e;injection e with e;injection e with e0 e1 e2;subst e0 e1 e2;refine ⟨adY _,fun _=>?_⟩
    exact ⟨by simpa using hle, .arr b c,hg, .inr ⟨by simpa using hcl,rfl,_,rfl⟩⟩
   subst hat
   have:=gQ (P:=P) (w:=w) (s:=true) (cap:=c-lo0) hl hh rlo rhi a1 a2 (by omega)
   refine ⟨_,by simp [Instr.sliceAt,Instr.slice,underlying,program,Sem.run,hE,this,run_sizeOf hk];rfl,⟨rfl,rfl⟩,hlt,fun ver2 es2 k2 e=>?_⟩
   rw [hL] at e;injection e with e;injection e with e0 e1 e2;subst e0 e1 e2;refine ⟨adY _,fun _=>?_⟩
   refine ⟨by omega, .arr b c,hg,?_⟩
   by_cases hm:c-lo0=l.toNat
   ·refine .inr ⟨by omega,by omega,some ⟨b,lo0*k,none⟩,?_⟩
    rw [if_pos hm,show h'.toNat-l.toNat=0 from by omega,show c-lo0-l.toNat=0 from by omega]
   ·refine .inl ?_
    rw [if_neg hm,Nat.add_mul,Nat.sub_add_eq]
    simp [Addr.add_mid]
 ·split at h
  ·rename_i es k hl ht
   have hp:=lF h1 hl
   obtain ⟨E,hE,hk⟩:=qU (hti.es ht)
   split at h
   ·rename_i l h' hl hh
    injection h with h;injection h with e1 e2;subst e1 e2
    obtain ⟨a1,a2,a3,a4⟩:=hφ
    match u1,hp with
    | .slice a n c,hp =>
     have hn:es.length=n:=by cases hp;assumption
     have hc:n<=c:=by cases hp;assumption
     subst hn
     have:=gQ (P:=P) (w:=w) (s:=true) (cap:=c) hl hh rlo rhi a1 a2 (by omega)
     refine ⟨_,by simp [Instr.sliceAt,Instr.slice,underlying,program,Sem.run,hE,this,run_sizeOf hk];rfl,?_⟩
     have h3:((h'-l).toNat)=h'.toNat-l.toNat:=by omega
     exact U8 (m:=c) hp (by omega) (by omega) a4 rfl
   ·cases h
  ·cases h
theorem MW (hti:TIok P ti) {t ty:TypeId} {vx v:AV} {φ:Prop} {u1:Value} (h1:vx.rep R γ L u1) (h:GA ti t vx=some (v,φ)) (hφ:φ) :
  ∃ u,(Builtin.len_ #[t] ty #[u1]).run P w = .ok u w/\v.rep R γ L u:=by
 unfold GA at h
 split at h
 ·rename_i s
  cases h1
  injection h with h;injection h with e1 e2;subst e1 e2
  exact ⟨.int .i64 s.size,by simp [Builtin.len_,underlying,program,Sem.run,hti.kind _ _ hφ,goInt], .int _ _⟩
 ·split at h
  case h_2=>cases h
  ·rename_i es hl
   injection h with h;injection h with e1 e2;subst e1 e2
   have hp:=lF h1 hl
   match u1,hp with
   | .slice a n c,hp =>
    have hn:es.length=n:=by cases hp;assumption
    subst hn
    have ⟨e,he⟩ : ∃ e,P.underlying t=some (.slice e):=by
     obtain ⟨e,he⟩:=aen.1 hφ
     have h2:=hti.elem _ _ he
     unfold sF at h2
     split at h2
     ·rename_i e' he';exact ⟨e',he'⟩
     ·cases h2
    exact ⟨.int .i64 es.length,by simp [Builtin.len_,underlying,program,Sem.run,he,goInt], .int _ _⟩
theorem wB {mx:Bool} {vx vy v:AV} {φ:Prop} {u1 u2:Value} {ts:Array TypeId} {ty:TypeId} (h1:vx.rep R γ L u1) (h2:vy.rep R γ L u2) (h:yO mx vx vy=some (v,φ)) :
  ∃ u,(if mx then Builtin.max_ ts ty #[u1,u2] else Builtin.min_ ts ty #[u1,u2]).run P w = .ok u w/\v.rep R γ L u:=by
 unfold yO at h
 split at h
 ·rename_i k a k' b
  cases h1;cases h2
  injection h with h;injection h with e1 e2;subst e1 e2
  cases mx
  ·exact ⟨.int k (if b<a then b else a),by simp [Builtin.min_,Builtin.min2], .int _ _⟩
  ·exact ⟨.int k (if b > a then b else a),by simp [Builtin.max_,Builtin.max2], .int _ _⟩
 ·cases h
end
section
variable {P:Program} {ti:TI} {B:Nat->Prop} {R:PH} {γ:List Gh} {L:List Ob} {w:World}
theorem fold_size (off:Nat) : ∀ (l:List Value) (k:Nat) (cells:Array Value),((l.zipIdx k).foldl (fun (cs:Array Value) (p:Value × Nat)=>cs.setIfInBounds (off+p.2) p.1) cells).size=cells.size
 | [],_,_=>rfl
 | v::l,k,cells=>by rw [List.zipIdx_cons,aew,fold_size off l];simp
theorem O_ (off:Nat) : ∀ (l:List Value) (k:Nat) (cells:Array Value),off+k+l.length<=cells.size -> ∀ i,
  ((l.zipIdx k).foldl (fun (cs:Array Value) (p:Value × Nat)=>cs.setIfInBounds (off+p.2) p.1) cells)[i]?=if off+k<=i/\i<off+k+l.length then l[i-(off+k)]? else cells[i]?
 | [],k,cells,_,i=>by
  rw [if_neg (by intro h;simp only [aec] at h;omega)];rfl
 | v::l,k,cells,h,i=>by
  rw [ad5] at h
  rw [List.zipIdx_cons,aew,O_ off l (k+1) _ (by simp;omega) i]
  by_cases h1:off+(k+1)<=i/\i<off+(k+1)+l.length
  ·rw [if_pos h1,if_pos (by simp;omega)]
   have:i-(off+k)=(i-(off+(k+1)))+1:=by omega
   rw [this,List.getElem?_cons_succ]
  ·rw [if_neg h1]
   by_cases h2:i=off+k
   ·subst h2
    rw [if_pos (by simp)]
    simp [Array.getElem?_setIfInBounds]
    omega
   ·rw [if_neg (by simp;omega)]
    simp only [Array.getElem?_setIfInBounds]
    rw [if_neg (by omega)]
theorem vI {zs xs:List SV} {o:Nat} (h:o+xs.length<=zs.length):(splice zs o xs).length=zs.length:=by
 simp [splice];omega
theorem zZ {zs xs:List SV} {o:Nat} (h:o+xs.length<=zs.length) (i:Nat):(splice zs o xs)[i]?=if o<=i/\i<o+xs.length then xs[i-o]? else zs[i]?:=by
 unfold splice
 by_cases h1:i<o
 ·rw [if_neg (by omega),adW (by simp;omega),adW (by simp;omega),aeb,if_pos h1]
 ·by_cases h2:i<o+xs.length
  ·rw [if_pos (by omega),adW (by simp;omega),adP (by simp;omega)]
   congr 1;simp;omega
  ·rw [if_neg (by omega),adP (by simp;omega),aes]
   congr 1;simp;omega
def JW (R:PH) (γ:List Gh) (L:List Ob) (xs:List SV) (vs:Array Value):Prop:=vs.size=xs.length /\ ∀ (j:Nat) u x,vs[j]?=some u->xs[j]?=some x->x.rep R γ L u
theorem cells_rep {v:AV} {u:Value} {xs:List SV} (h:v.rep R γ L u) (hc:v.cells=some xs):JW R γ L xs u.cells:=by
 cases v with
 | one x =>
  injection hc with hc;subst hc
  have e:=(SV.rep_one h).1
  rw [e]
  refine ⟨rfl,fun j u' x' hu hx=>?_⟩
  cases j with
  | zero=>simp at hu hx;subst hu hx;exact h
  | succ j=>simp at hu
 | agg ys =>
  injection hc with hc;subst hc
  obtain ⟨vs,rfl,h1,h2⟩:=h
  exact ⟨h1,h2⟩
 | tup ps=>cases hc
 | undef=>cases hc
theorem Og (hti:TIok P ti) {t:TypeId} {places:Array (Nat × Nat)} (hpl : ∀ i o ty,zX P t i=some (o,ty) -> ∀ n,gT P ty=some n->places[i]?=some (o,n)) :
  ∀ (ps:List (Nat × Option AV)) (us:List (Nat × Value)) (zs:List SV) (cells:Array Value) (r:List SV) (φ:Prop),us.length=ps.length ->
   (∀ (j:Nat) p q,ps[j]?=some p->us[j]?=some q->p.1=q.1 /\ ∀ v,p.2=some v->v.rep R γ L q.2)->JW R γ L zs cells->oK ti t zs ps=some (r,φ)->φ ->
   ∃ cells',Instr.fill (places[·]?) cells us=some cells'/\JW R γ L r cells'
 | [],us,zs,cells,r,φ,hl,_,hz,h,_=>by
  cases us with
  | nil=>injection h with h;injection h with e1 e2;subst e1;exact ⟨cells,rfl,hz⟩
  | cons=>simp at hl
 | (i,v)::ps,us,zs,cells,r,φ,hl,hr,hz,h,hφ=>by
  cases us with
  | nil=>simp at hl
  | cons q us =>
   obtain ⟨qi,qv⟩:=q
   have h0:=hr 0 _ _ rfl rfl
   obtain ⟨e0,hv⟩:=h0
   simp only at e0;subst e0
   unfold oK at h
   split at h
   ·rename_i xs o ty hc hf
    split at h
    case h_2=>cases h
    ·rename_i r' φ' hb
     injection h with h;injection h with e1 e2;subst e1 e2
     obtain ⟨⟨hs,hle⟩,hφ'⟩:=hφ
     cases v with
     | none=>simp at hc
     | some v =>
      simp only [adH] at hc
      have hq:=cells_rep (hv v rfl) hc
      have hp:=hpl i o ty (hti.field _ _ _ hf) _ (hti.size _ _ hs)
      have hsz:qv.cells.size=xs.length:=hq.1
      have hfit:o+qv.cells.size<=cells.size:=by rw [hsz,hz.1];exact hle
      have step:JW R γ L (splice zs o xs) (qv.cells.zipIdx.foldl (fun (cs:Array Value) (p:Value × Nat)=>cs.setIfInBounds (o+p.2) p.1) cells):=by
       rw [<- Array.foldl_toList,Array.toList_zipIdx]
       refine ⟨by rw [fold_size,vI hle];exact hz.1,fun j u x hu hx=>?_⟩
       rw [O_ o _ 0 _ (by simp;omega)] at hu
       rw [zZ hle] at hx
       by_cases hj:o<=j/\j<o+xs.length
       ·rw [if_pos hj] at hx
        rw [if_pos (by simp;omega)] at hu
        exact hq.2 (j-o) u x (by simpa using hu) hx
       ·rw [if_neg hj] at hx
        rw [if_neg (by simp;omega)] at hu
        exact hz.2 j u x hu hx
      obtain ⟨cells',f1,f2⟩:=Og hti hpl ps us _ _ r' φ' (by simpa using hl) (fun j p q hp hq=>hr (j+1) p q (by simpa using hp) (by simpa using hq)) step hb hφ'
      refine ⟨cells',?_,f2⟩
      simp only [Instr.fill]
      rw [hp]
      simp only [hsz,ne_eq,not_true_eq_false,decide_false,Bool.false_or,gt_iff_lt,decide_eq_true_eq]
      rw [if_neg (by omega)]
      exact f1
   ·cases h
theorem run_places : ∀ (fs:List Field),(∀ f∈fs,(gT P f.type).isSome)->(fs.mapM (fun f=>(do pure (f.offset, <- sizeOf f.type):Sem (Nat × Nat)))).run P w = .ok (fs.map fun f=>(f.offset,(gT P f.type).getD 0)) w
 | [],_=>rfl
 | f::fs,h=>by
  obtain ⟨n,hn⟩:=aen.1 (h f (by simp))
  have ih:=run_places fs fun g hg=>h g (ad7 _ hg)
  rw [List.mapM_cons]
  simp only [Sem.run_bind,Sem.run_pure,run_sizeOf hn,Result.andThen_ok]
  rw [ih]
  simp [hn]
theorem G7 (hti:TIok P ti) {t:TypeId} {ps:List (Nat × Option AV)} {us:Array (Nat × Value)} {zs r:List SV} {φ:Prop} (ht:E_ P t=true) (hz:zeroOf P t=some (.agg zs)) (hl:us.size=ps.length)
  (hr : ∀ (j:Nat) p q,ps[j]?=some p->us[j]?=some q->p.1=q.1 /\ ∀ v,p.2=some v->v.rep R γ L q.2) (h:oK ti t zs ps=some (r,φ)) (hφ:φ) :
  ∃ u,(Instr.build t us).run P w = .ok u w/\(AV.agg r).rep R γ L u:=by
 obtain ⟨fs,hu,ht⟩ : ∃ fs,P.underlying t=some (.struct fs)/\(fs.all fun f=>(gT P f.type).isSome)=true:=by
  unfold E_ at ht
  split at ht
  ·rename_i fs hu;exact ⟨fs,hu,ht⟩
  ·cases ht
 have hall : ∀ f∈fs.toList,(gT P f.type).isSome:=by
  intro f hf
  have:=Array.all_eq_true'.1 ht f (by simpa using hf)
  exact this
 have hpl:=run_places (P:=P) (w:=w) fs.toList hall
 have hzero : ∃ z,(zeroValue t).run P w = .ok z w/\JW R γ L zs z.cells:=by
  unfold zeroOf at hz
  cases hi:P.info? t with
  | none=>simp [hi] at hz
  | some i =>
   simp only [hi,adH] at hz
   cases hzz:i.zero with
   | none=>simp [hzz] at hz
   | some z =>
    simp only [hzz,adH] at hz
    refine ⟨z,by simp [zeroValue,typeInfo,program,Sem.run,hi,hzz],?_⟩
    have:=AV.ofVal_rep (R:=R) (γ:=γ) (L:=L) hz
    exact cells_rep this rfl
 obtain ⟨z,hz1,hz2⟩:=hzero
 obtain ⟨cells',f1,f2⟩:=Og hti (t:=t) (places:=(fs.toList.map fun f=>(f.offset,(gT P f.type).getD 0)).toArray) (by
  intro i o ty hf n hn
  obtain ⟨fs',fd,e1,e2,e3,e4⟩:=uR hf
  rw [hu] at e1
  injection e1 with e1;injection e1 with e1;subst e1
  subst e3 e4
  simp [e2,hn]) ps us.toList zs z.cells r φ (by simpa using hl) (fun j p q hp hq=>hr j p q hp (by simpa using hq)) hz2 h hφ
 refine ⟨.agg cells',?_,cells',rfl,f2.1,f2.2⟩
 have hm:(fs.mapM (fun f=>(do pure (f.offset, <- sizeOf f.type):Sem (Nat × Nat)))).run P w = .ok (fs.toList.map fun f=>(f.offset,(gT P f.type).getD 0)).toArray w:=by
  rw [Array.mapM_eq_mapM_toList]
  simp only [Sem.run_map,hpl,Result.andThen_ok]
 unfold Instr.build
 simp only [Sem.run_bind,hz1,Result.andThen_ok,underlying,program,Sem.run,hu,Sem.run_pure]
 rw [hm]
 simp only [Result.andThen_ok]
 rw [f1]
 simp
end
section
variable {P:Program} {ti:TI} {B:Nat->Prop} {R:PH} {γ:List Gh} {L:List Ob} {w:World}
theorem GN {ρ:Operand->Option AV} {a:Act} (hρ : ∀ x v,ρ x=some v->v.rep R γ L (a.eval x)) : ∀ {xs:List Operand} {cs:List AC}, F_ (xs.map ρ)=some cs ->
  xs.length=cs.length /\ ∀ (j:Nat) x y,xs[j]?=some x->cs[j]?=some y->bH R (a.eval x) y
 | [],cs,h=>by injection h with h;subst h;exact ⟨rfl,fun j x y hx=>by simp at hx⟩
 | x::xs,cs,h=>by
  rw [adT] at h
  unfold F_ at h
  split at h
  ·rename_i heq;cases heq
  ·rename_i y rest heq
   injection heq with e1 e2
   subst e2
   split at h
   ·rename_i z zs hz hzs
    injection h with h;subst h
    obtain ⟨g1,g2⟩:=GN hρ hzs
    refine ⟨by simp [g1],fun j x' y' hx hy=>?_⟩
    cases j with
    | zero=>simp at hx hy;subst hx hy;exact SV.norm_rep (hρ _ _ e1) hz
    | succ j=>exact g2 j x' y' (by simpa using hx) (by simpa using hy)
   ·cases h
  ·cases h
theorem YC {ρ:Operand->Option AV} {args:Array Operand} {x y:AV} (h:args.toList.map ρ=[some x,some y]) : ∃ a b,args = #[a,b]/\ρ a=some x/\ρ b=some y:=by
 obtain ⟨l⟩:=args
 match l,h with
 | [],h=>cases h
 | [a],h=>simp at h
 | [a,b],h=>simp only [adT,adX,List.cons.injEq,and_true] at h;exact ⟨a,b,rfl,h⟩
 | a::b::c::l,h=>simp at h
theorem UG (hti:TIok P ti) (hi:Inv B R γ L w) {a:Act} {ρ:Operand->Option AV} (hρ : ∀ x v,ρ x=some v->v.rep R γ L (a.eval x)) {o:Oper} {v:AV} {φ:Prop} (h:pop ti ρ L o.op=some (v,φ)) (hφ:φ) :
  xy P B R γ L w (execOp a.eval o) v:=by
 obtain ⟨dst,op,type,pos,after,guard⟩:=o
 simp only at h
 unfold pop at h
 split at h
 ·rename_i x
  split at h
  case h_2=>cases h
  ·rename_i vx hx
   injection h with h;injection h with e1 e2;subst e1
   exact ⟨a.eval x,w,R,by simp [execOp],hi,Ext.refl _ _ _,hρ _ _ hx⟩
 ·rename_i x
  split at h
  case h_2=>cases h
  ·rename_i vx hx
   injection h with h;injection h with e1 e2;subst e1
   exact ⟨a.eval x,w,R,by simp [execOp],hi,Ext.refl _ _ _,hρ _ _ hx⟩
 ·rename_i c x y
  split at h
  ·rename_i t va vb hc hx hy
   injection h with h;injection h with e1 e2;subst e1
   have h1:=hρ _ _ hc
   generalize hcv:a.eval c=cv at h1
   cases h1
   refine ⟨if t=true then a.eval x else a.eval y,w,R,?_,hi,Ext.refl _ _ _,?_⟩
   ·simp [execOp,hcv,asBool]
   ·cases t
    ·simpa using hρ _ _ hy
    ·simpa using hρ _ _ hx
  ·cases h
 ·rename_i op' t x y yt
  split at h
  ·rename_i va vb hx hy
   obtain ⟨u,h1,h2⟩:=Mf (P:=P) (x:=x) (y:=y) hti hi (hρ _ _ hx) (hρ _ _ hy) h hφ
   have:=xy.quiet (P:=P) (v:=v) hi h1 h2
   simpa [execOp] using this
  ·cases h
 ·rename_i op' t x
  split at h
  ·rename_i b hx
   injection h with h;injection h with e1 e2;subst e1
   have h1:=hρ _ _ hx
   generalize hcv:a.eval x=cv at h1
   cases h1
   exact ⟨.bool (!b),w,R,by simp [execOp,hcv,Op.unary],hi,Ext.refl _ _ _, .bool _⟩
  ·rename_i k n hx
   injection h with h;injection h with e1 e2;subst e1
   have h1:=hρ _ _ hx
   generalize hcv:a.eval x=cv at h1
   cases h1
   exact ⟨.int k (k.wrap (0-n)),w,R,by simp [execOp,hcv,Op.unary,Op.intArith],hi,Ext.refl _ _ _, .int _ _⟩
  ·cases h
 ·rename_i src ds x
  split at h
  ·rename_i k n hx
   have h1:=hρ _ _ hx
   generalize hcv:a.eval x=cv at h1
   cases h1
   split at h
   ·rename_i k' hd
    injection h with h;injection h with e1 e2;subst e1 e2
    obtain ⟨d,hd2⟩:=aen.1 hφ
    exact ⟨.int k' (k'.wrap n),w,R,by simp [execOp,hcv,convert,underlying,program,Sem.run,hti.kind _ _ hd,hti.kind _ _ hd2,Conv.intToInt],hi,Ext.refl _ _ _, .int _ _⟩
   ·cases h
  ·rename_i s hx
   have h1:=hρ _ _ hx
   generalize hcv:a.eval x=cv at h1
   cases h1
   injection h with h;injection h with e1 e2;subst e1 e2
   obtain ⟨hd,hs⟩:=hφ
   obtain ⟨d,hd2⟩:=aen.1 hs
   exact ⟨.string s,w,R,by simp [execOp,hcv,convert,underlying,program,Sem.run,hti.kind _ _ hd,hti.kind _ _ hd2],hi,Ext.refl _ _ _, .str _⟩
  ·cases h
 ·rename_i t p
  cases hx:ρ p with
  | none=>simp [hx] at h
  | some vx =>
   rw [hx] at h
   obtain ⟨u,h1,h2⟩:=zF hti hi (hρ _ _ hx) h hφ
   exact xy.quiet hi h1 h2
 ·rename_i s x i
  split at h
  ·rename_i id ver i0 off hx
   obtain ⟨u,h1,h2⟩:=Cw hti (w:=w) (hρ _ _ hx) h hφ
   exact xy.quiet hi h1 h2
  case h_3=>cases h
  ·rename_i vx hne hx
   obtain ⟨u,h1,h2⟩:=Ai hti (w:=w) (hρ _ _ hx) h hφ
   exact xy.quiet hi h1 h2
 ·rename_i s x i
  cases hx:ρ x with
  | none=>simp [hx] at h
  | some vx =>
   rw [hx] at h
   obtain ⟨u,h1,h2⟩:=Jf hti (w:=w) (hρ _ _ hx) h hφ
   exact xy.quiet hi h1 h2
 ·rename_i t x ix
  split at h
  ·rename_i id ver lo n vi hx hy
   obtain ⟨u,h1,h2⟩:=CE hti hi (hρ _ _ hx) (hρ _ _ hy) h hφ
   exact xy.quiet hi h1 h2
  ·rename_i vx vi hne hx hy
   obtain ⟨u,h1,h2⟩:=Ba hti (w:=w) (hρ _ _ hx) (hρ _ _ hy) h hφ
   exact xy.quiet hi h1 h2
  ·cases h
 ·rename_i t x ix
  split at h
  ·rename_i vx vi hx hy
   obtain ⟨u,h1,h2⟩:=Gf hti (w:=w) (hρ _ _ hx) (hρ _ _ hy) h hφ
   exact xy.quiet hi h1 h2
  ·cases h
 ·rename_i t i
  split at h
  ·rename_i ps hx
   split at h
   case h_2=>cases h
   ·rename_i p hp
    injection h with h;injection h with e1 e2;subst e1
    obtain ⟨vs,h1,h2,h3⟩:=hρ _ _ hx
    have hlt:i<vs.size:=by rw [h2];exact (adI.1 hp).1
    have hu:vs[i]?=some vs[i]:=ad8 hlt
    exact ⟨vs[i],w,R,by simp [execOp,h1,Instr.extract,hu],hi,Ext.refl _ _ _,PV.av_rep (h3 i _ p hu hp)⟩
  ·cases h
 ·rename_i x
  split at h
  ·rename_i cs hx
   injection h with h;injection h with e1 e2;subst e1
   have h1:=hρ _ _ hx
   have h1':=h1
   generalize hcv:a.eval x=cv at h1
   cases h1
   exact ⟨_,w,R,by simp [execOp,hcv];rfl,hi,Ext.refl _ _ _,by rw [<- hcv];exact h1'⟩
  ·rename_i id off hx
   injection h with h;injection h with e1 e2;subst e1
   obtain ⟨b,h1,h2⟩:=hρ _ _ hx
   exact ⟨.pointer (some ⟨b,off,none⟩),w,R,by simp [execOp,h1],hi,Ext.refl _ _ _,b,rfl,h2⟩
  ·rename_i id ver i o hx
   split at h
   case h_2=>cases h
   rename_i ver' es k hL
   injection h with h;injection h with e1 e2;subst e1 e2
   subst hφ
   have h1:=hρ _ _ hx
   obtain ⟨_,g,_,hat⟩:=(h1.2.2 _ es k hL).2 rfl
   match g,hat with
   | .arr b c,hat =>
    have hat:a.eval x = .pointer (some ⟨b,i*k+o,none⟩):=hat
    exact ⟨_,w,R,by simp [execOp,hat];rfl,hi,Ext.refl _ _ _,by rw [<- hat];exact h1⟩
  ·rename_i f cs hx
   injection h with h;injection h with e1 e2;subst e1
   have h1:=hρ _ _ hx
   obtain ⟨vs,hv,_⟩:=id h1
   exact ⟨_,w,R,by simp [execOp,hv];rfl,hi,Ext.refl _ _ _,by rw [<- hv];exact h1⟩
  ·rename_i f cs hx
   injection h with h;injection h with e1 e2;subst e1
   have h1:=hρ _ _ hx
   have h1':=h1
   generalize hcv:a.eval x=cv at h1
   cases h1
   exact ⟨_,w,R,by simp [execOp,hcv];rfl,hi,Ext.refl _ _ _,by rw [<- hcv];exact h1'⟩
  ·cases h
 ·rename_i t x lo hi'
  split at h
  ·rename_i vx hx hl hh
   obtain rfl:lo=none:=by cases lo<;>simp at hl ⊢
   obtain rfl:hi'=none:=by cases hi'<;>simp at hh ⊢
   obtain ⟨u,h1,h2⟩:=ko hti hi (lo:=none) (hi:=none) (vlo:=none) (vhi:=none) (hρ _ _ hx) trivial trivial h hφ
   exact xy.quiet hi h1 h2
  ·rename_i vx l hx hl hh
   obtain ⟨lo',rfl⟩ : ∃ l',lo=some l':=by cases lo<;>simp at hl ⊢
   obtain rfl:hi'=none:=by cases hi'<;>simp at hh ⊢
   simp only [Option.map_some,Option.some.injEq] at hl
   obtain ⟨u,h1,h2⟩:=ko hti hi (lo:=some l) (hi:=none) (vlo:=some (a.eval lo')) (vhi:=none) (hρ _ _ hx) (hρ _ _ hl) trivial h hφ
   exact xy.quiet hi h1 h2
  ·rename_i vx l hx hl hh
   obtain rfl:lo=none:=by cases lo<;>simp at hl ⊢
   obtain ⟨hi'',rfl⟩ : ∃ l',hi'=some l':=by cases hi'<;>simp at hh ⊢
   simp only [Option.map_some,Option.some.injEq] at hh
   obtain ⟨u,h1,h2⟩:=ko hti hi (lo:=none) (hi:=some l) (vlo:=none) (vhi:=some (a.eval hi'')) (hρ _ _ hx) trivial (hρ _ _ hh) h hφ
   exact xy.quiet hi h1 h2
  ·rename_i vx l l2 hx hl hh
   obtain ⟨lo',rfl⟩ : ∃ l',lo=some l':=by cases lo<;>simp at hl ⊢
   obtain ⟨hi'',rfl⟩ : ∃ l',hi'=some l':=by cases hi'<;>simp at hh ⊢
   simp only [Option.map_some,Option.some.injEq] at hl hh
   obtain ⟨u,h1,h2⟩:=ko hti hi (lo:=some l) (hi:=some l2) (vlo:=some (a.eval lo')) (vhi:=some (a.eval hi'')) (hρ _ _ hx) (hρ _ _ hl) (hρ _ _ hh) h hφ
   exact xy.quiet hi h1 h2
  ·cases h
 ·rename_i args argTypes
  split at h
  ·rename_i x t hx ht
   have e1:args = #[x]:=by cases args;simp_all
   have e2:argTypes = #[t]:=by cases argTypes;simp_all
   subst e1 e2
   split at h
   ·rename_i id ver lo n hρx
    obtain ⟨u,h1,h2⟩:=EP hti (w:=w) (ty:=type) (hρ _ _ hρx) h hφ
    refine ⟨u,w,R,?_,hi,Ext.refl _ _ _,h2⟩
    simp [execOp,resolve,invoke,builtin,h1]
   case h_3=>cases h
   ·rename_i vx hne hρx
    obtain ⟨u,h1,h2⟩:=MW hti (w:=w) (ty:=type) (hρ _ _ hρx) h hφ
    refine ⟨u,w,R,?_,hi,Ext.refl _ _ _,h2⟩
    simp [execOp,resolve,invoke,builtin,h1]
  ·cases h
 ·rename_i args argTypes
  split at h
  ·rename_i vx vy hxy
   obtain ⟨x,y,rfl,hx2,hy2⟩:=YC hxy
   ·obtain ⟨u,h1,h2⟩:=wB (P:=P) (w:=w) (ts:=argTypes) (ty:=type) (hρ _ _ hx2) (hρ _ _ hy2) h
    refine ⟨u,w,R,?_,hi,Ext.refl _ _ _,h2⟩
    simp only [Bool.false_eq_true,if_false] at h1
    simp [execOp,resolve,invoke,builtin,h1]
  ·cases h
 ·rename_i args argTypes
  split at h
  ·rename_i vx vy hxy
   obtain ⟨x,y,rfl,hx2,hy2⟩:=YC hxy
   ·obtain ⟨u,h1,h2⟩:=wB (P:=P) (w:=w) (ts:=argTypes) (ty:=type) (hρ _ _ hx2) (hρ _ _ hy2) h
    refine ⟨u,w,R,?_,hi,Ext.refl _ _ _,h2⟩
    simp only [if_true] at h1
    simp [execOp,resolve,invoke,builtin,h1]
  ·cases h
 ·rename_i t parts
  split at h
  ·rename_i zs hz
   split at h
   case h_2=>cases h
   ·rename_i r ψ hb
    injection h with h;injection h with e1 e2;subst e1 e2
    obtain ⟨hts,hr⟩:=hφ
    obtain ⟨u,h1,h2⟩:=G7 hti (w:=w) (R:=R) (γ:=γ) (L:=L) (us:=parts.map fun p=>(p.1,a.eval p.2)) (hti.struct _ hts) (hti.zero _ _ hz) (by simp) (by
     intro j p q hp hq
     rw [ad6] at hp
     rw [Array.getElem?_map] at hq
     cases hj:parts[j]? with
     | none=>simp [hj] at hq
     | some pj =>
      have:parts.toList[j]?=some pj:=by simpa using hj
      rw [this] at hp
      rw [hj] at hq
      simp only [Option.map_some,Option.some.injEq] at hp hq
      subst hp hq
      exact ⟨rfl,fun v hv=>hρ _ _ hv⟩) hb hr
    exact xy.quiet hi h1 h2
  ·cases h
 ·rename_i f first captured
  split at h
  ·rename_i cs hf hc
   injection h with h;injection h with e1 e2;subst e1
   obtain ⟨g1,g2⟩:=GN hρ hc
   have:first = #[]:=by cases first;simp_all
   subst this
   refine ⟨.func (.func f) #[] (captured.map a.eval),w,R,by simp [execOp,Instr.makeFunc],hi,Ext.refl _ _ _,?_⟩
   refine .fn f _ cs (by simpa using g1) (fun j u x hu hx=>?_)
   rw [Array.getElem?_map] at hu
   cases hj:captured[j]? with
   | none=>simp [hj] at hu
   | some y =>
    rw [hj] at hu
    simp only [Option.map_some,Option.some.injEq] at hu
    subst hu
    exact g2 j y x (by simpa using hj) hx
  ·cases h
 ·cases h
end
end Go.Proofs.YtfccopdbgfdcdaaGreatDoor
