import Derived.Test.YtoiejpkfpjingaaELkA
import Derived.Maps.RangeRun
set_option linter.all false
set_option maxRecDepth 100000
open Prod renaming fst→A0
open List renaming map_cons→A1, getElem?_map→A7, length_eraseIdx→A8, getElem?_eraseIdx→A9, append_assoc→B7, mem_cons→B9, eq_nil_of_length_eq_zero→D0, nodup_cons→D4, nodup_append→D5, getElem?_eq_getElem→D6, mem_of_getElem?→D7, getElem?_concat_length→E0, getElem?_append_left→E7
open Go.Result renaming andThen→A2
open Nat renaming add_mul→A3, le_refl→B5, lt_of_lt_of_le→B6, le_trans→C6, eq_zero_or_pos→C7, le_of_eq→C8, zero_add→D1
open Array renaming length_toList→A4, getElem?_toList→A5, getElem?_eq_getElem→D3, getElem?_modify→D8, getElem?_push→D9
open Go.MapKept renaming run_getObj_map→A6, run_setObj_map→C4
open Option renaming map_eq_some_iff→C5
open Go.Region renaming wanted→D2
namespace Go.Proofs
open Go.RowKit Go.AM
open Go.ChangeMaps (setBlock)
def RowT (w:World) (L:Nat→Nat) (role:Nat) (e:TypeId) (size:Nat) (v:Value) (n:Nat) (xs:List Value):Prop :=
  xs.length=n * size ∧
  ((v=.slice none 0 0∧n=0) ∨
   ∃ g off cap cur,v=.slice (some ⟨g,off,none⟩) n cap∧L g=role∧w.heap[g]? = some (.cells cur e (0,0))∧n≤cap∧cap≤maxLen∧off+cap * size≤cur.size∧(cur.toList.drop off).take (n * size)=xs)
structure Mvs (L L':Nat→Nat) (w w':World):Prop where
  os:w'.os=w.os
  tape:w'.tape=w.tape
  output:w'.output=w.output
  size:w.heap.size≤w'.heap.size
  keep:∀ k,k<w.heap.size→L k=0→w'.heap[k]? = w.heap[k]?
  grow:∀ k,L' k≠0→L k≠0∨w.heap.size≤k
theorem Mvs.refl (L:Nat→Nat) (w:World):Mvs L L w w:=⟨rfl,rfl,rfl,B5 _,fun _ _ _=>rfl,fun _ h=>.inl h⟩
theorem Mvs.trans {L L' L'':Nat→Nat} {w w' w'':World} (h:Mvs L L' w w') (h':Mvs L' L'' w' w''):Mvs L L'' w w'':=by
  refine⟨h'.os.trans h.os,h'.tape.trans h.tape,h'.output.trans h.output,C6 h.size h'.size,fun k hk h0=>?_,fun k hk=>?_⟩
  · have:L' k=0:=by
      rcases C7 (L' k) with e | e
      · exact e
      · rcases h.grow k (by omega) with e' | e'
        · exact absurd h0 e'
        · omega
    rw[h'.keep k (B6 hk h.size) this,h.keep k hk h0]
  · rcases h'.grow k hk with e | e
    · exact h.grow k e
    · exact .inr (C6 h.size e)
theorem Mvs.drew {L L':Nat→Nat} {w w':World} (h:Mvs L L' w w'):Mvs L L' w w'.drew:=⟨h.os,h.tape,h.output,h.size,h.keep,h.grow⟩
theorem Mvs.of_below {L:Nat→Nat} {w w':World} (h:Below w.heap.size w w'):Mvs L L w w':=⟨h.os,h.tape,h.output,h.size,fun k hk _=>h.block k hk,fun _ e=>.inl e⟩
theorem Mvs.alloc {L L':Nat→Nat} {w w':World} (h:Mvs L L' w w') (o:Obj):Mvs L L' w (w'.alloc o):=⟨h.os,h.tape,h.output,by rw[Nat.le_iff_lt_or_eq];left;simp;have:=h.size;omega,fun k hk h0=>by rw[heap_alloc_old _ _ (B6 hk h.size)];exact h.keep k hk h0,h.grow⟩
theorem Mvs.below {L L':Nat→Nat} {w w':World} {B:Nat} (h:Mvs L L' w w') (hB:B≤w.heap.size) (hL:∀ k,L k≠0→B≤k):Below B w w':=⟨h.os,h.tape,h.output,h.size,fun k hk=>h.keep k (by omega) (by rcases C7 (L k) with e | e;exact e;have:=hL k (by omega);omega)⟩
structure Grw (role:Nat) (L L':Nat→Nat) (w w':World):Prop where
  mv:Mvs L L' w w'
  same:∀ k,k<w.heap.size→L' k=L k
  oth:∀ k,k<w.heap.size→L k≠role→w'.heap[k]? = w.heap[k]?
  new:∀ k,w.heap.size≤k→L' k≠0→L' k=role∧k<w'.heap.size
theorem Grw.hi {role:Nat} {L L':Nat→Nat} {w w':World} (h:Grw role L L' w w'):∀ k,w'.heap.size≤k→L' k=0:=fun k hk=>by
  rcases C7 (L' k) with e | e
  · exact e
  · have:=(h.new k (C6 h.mv.size hk) (by omega)).2
    omega
theorem Grw.setCell {role:Nat} {L:Nat→Nat} {w:World} {b o:Nat} (v:Value) (hL:L b=role) (h0:role≠0) (hi:∀ k,w.heap.size≤k→L k=0):Grw role L L w (w.setCell ⟨b,o,none⟩ v):=by
  have hb:∀ k,L k≠role→(w.setCell ⟨b,o,none⟩ v).heap[k]? = w.heap[k]?:=fun k hk=>Below.heap_setCell _ _ _ _ (fun e=>hk (by rw[e];exact hL))
  exact⟨⟨rfl,rfl,rfl,C8 (by simp[World.setCell]),fun k _ hk=>hb k (by omega),fun k hk=>.inl hk⟩,fun k _=>rfl,fun k _ hk=>hb k hk,fun k h1 h2=>absurd (hi k h1) h2⟩
theorem Grw.setBlock {role:Nat} {L:Nat→Nat} {w:World} {b:Nat} (o:Obj) (hL:L b=role) (h0:role≠0) (hi:∀ k,w.heap.size≤k→L k=0):Grw role L L w (setBlock w b o):=by
  have hb:∀ k,L k≠role→(Go.ChangeMaps.setBlock w b o).heap[k]? = w.heap[k]?:=fun k hk=>Jx (fun e=>hk (by rw[e];exact hL))
  exact⟨⟨rfl,rfl,rfl,C8 QV.symm,fun k _ hk=>hb k (by omega),fun k hk=>.inl hk⟩,fun k _=>rfl,fun k _ hk=>hb k hk,fun k h1 h2=>absurd (hi k h1) h2⟩
theorem Grw.trans {role:Nat} {L L' L'':Nat→Nat} {w w' w'':World} (h:Grw role L L' w w') (h':Grw role L' L'' w' w''):Grw role L L'' w w'':=by
  refine⟨h.mv.trans h'.mv,fun k hk=>?_,fun k hk hr=>?_,fun k hk h0=>?_⟩
  · rw[h'.same k (B6 hk h.mv.size),h.same k hk]
  · rw[h'.oth k (B6 hk h.mv.size) (by rw[h.same k hk];exact hr),h.oth k hk hr]
  · by_cases hk2:w'.heap.size≤k
    · exact h'.new k hk2 h0
    · have e:=h'.same k (by omega)
      rw[e]at h0 ⊢;exact⟨(h.new k hk h0).1,by have:=h'.mv.size;omega⟩
theorem Grw.alloc {role:Nat} {L:Nat→Nat} {w:World} (o:Obj) (hi:∀ k,w.heap.size≤k→L k=0):Grw role L (fun k=>if k=w.heap.size then role else L k) w (w.alloc o):=by
  refine⟨⟨rfl,rfl,rfl,by simp,fun k hk _=>heap_alloc_old _ _ hk,fun k hk=>?_⟩,fun k hk=>by rw[if_neg (by omega)],fun k hk _=>heap_alloc_old _ _ hk,fun k hk h0=>?_⟩
  · by_cases e1:k=w.heap.size
    · exact .inr (by omega)
    · rw[if_neg e1]at hk;exact .inl hk
  · by_cases e1:k=w.heap.size
    · rw[if_pos e1];exact⟨rfl,by simp;omega⟩
    · rw[if_neg e1,hi k hk]at h0;exact absurd rfl h0
section
variable {w w':World} {L L':Nat→Nat} {role:Nat} {e:TypeId} {size:Nat} {v:Value} {n:Nat} {xs:List Value}
theorem RowT.nil (w:World) (L:Nat→Nat) (role:Nat) (e:TypeId) (size:Nat):RowT w L role e size (.slice none 0 0) 0 []:=⟨by simp,.inl ⟨rfl,rfl⟩⟩
theorem RowT.kept (h:RowT w L role e size v n xs) (hb:∀ k,k<w.heap.size→L k=role→w'.heap[k]? = w.heap[k]?) (hL:∀ k,k<w.heap.size→L k=role→L' k=role):RowT w' L' role e size v n xs:=by
  obtain⟨q1,q2⟩:=h;refine⟨q1,?_⟩
  rcases q2 with hn | ⟨g,off,cap,cur,hv,hr,hg,rest⟩
  · exact .inl hn
  · have:=(Array.getElem?_eq_some_iff.1 hg).1
    exact .inr ⟨g,off,cap,cur,hv,hL g this hr,by rw[hb g this hr];exact hg,rest⟩
theorem RowT.grw {r:Nat} (h:RowT w L role e size v n xs) (hg:Grw r L L' w w') (hr:role≠r):RowT w' L' role e size v n xs :=
  h.kept (fun k hk h1=>hg.oth k hk (by omega)) (fun k hk h1=>by rw[hg.same k hk];exact h1)
theorem RowT.lt (h:RowT w L role e size v n xs):∀ k,v.ownBlock=some k→L k=role∧k<w.heap.size:=by
  intro k hk
  rcases h.2 with ⟨rfl,_⟩ | ⟨g,off,cap,cur,rfl,hr,hg,_⟩
  · cases hk
  · cases hk;exact⟨hr,(Array.getElem?_eq_some_iff.1 hg).1⟩
theorem RowT.form (h:RowT w L role e size v n xs):∃ a cap,v=.slice a n cap:=by
  rcases h.2 with ⟨rfl,rfl⟩ | ⟨g,off,cap,cur,rfl,_⟩
  · exact⟨none,0,rfl⟩
  · exact⟨_,cap,rfl⟩
theorem RowT.formp (h:RowT w L role e size v n xs) (hn:0<n):∃ g off cap,v=.slice (some ⟨g,off,none⟩) n cap∧L g=role∧g<w.heap.size∧n≤cap:=by
  rcases h.2 with ⟨rfl,rfl⟩ | ⟨g,off,cap,cur,rfl,hr,hg,hc,_⟩
  · omega
  · exact⟨g,off,cap,rfl,hr,(Array.getElem?_eq_some_iff.1 hg).1,hc⟩
theorem RowT.cell {g off cap:Nat} (h:RowT w L role e size (.slice (some ⟨g,off,none⟩) n cap) n xs) {j:Nat} {u:Value} (hu:xs[j]? = some u):w.cell? ⟨g,off+j,none⟩=some u:=by
  rcases h.2 with ⟨h0,_⟩ | ⟨g',off',cap',cur,h0,hr,hg,hc,hm,hs,ht⟩
  · cases h0
  · cases h0
    rw[← ht,List.getElem?_take]at hu;split at hu
    · rw[List.getElem?_drop,A5]at hu
      simp[World.cell?,hg,hu]
    · cases hu
theorem RowT.tail {g off cap:Nat} (h:RowT w L role e size (.slice (some ⟨g,off,none⟩) (n+1) cap) (n+1) xs) :
    (cap=1∧n=0∧RowT w L role e size (.slice (some ⟨g,off,none⟩) n 0) n (xs.drop size))∨(cap≠1∧RowT w L role e size (.slice (some ⟨g,off+size,none⟩) n (cap - 1)) n (xs.drop size)):=by
  rcases h.2 with ⟨h0,_⟩ | ⟨g',off',cap',cur,h0,hr,hg,hc,hm,hs,ht⟩
  · cases h0
  · cases h0
    have hlen:(xs.drop size).length=n * size:=by rw[List.length_drop,h.1,A3];omega
    obtain⟨c,rfl⟩:∃ c,cap=c+1:=⟨cap - 1,by omega⟩;rw[A3]at hs;by_cases hc1:c=0
    · left
      subst hc1
      have hn:n=0:=by omega
      subst hn;refine⟨rfl,rfl,hlen,.inr ⟨g,off,0,cur,rfl,hr,hg,B5 _,by omega,by omega,?_⟩⟩;rw[Nat.zero_mul]at hlen ⊢;rw[D0 hlen];simp
    · right
      refine⟨by omega,hlen,.inr ⟨g,off+size,c+1 - 1,cur,rfl,hr,hg,by omega,by omega,?_,?_⟩⟩
      · rw[Nat.add_sub_cancel];omega
      · rw[← ht,List.drop_take,List.drop_drop]
        congr 1
        rw[A3];omega
end
theorem NW {P:Program} (w:World) (t ty e:TypeId) (i:TypeInfo) (ht:P.underlying t=some (.slice e)) (hi:P.info? e=some i)
    (g off sLen sCap:Nat) (cur:Array Value) (hg:w.heap[g]? = some (.cells cur e (0,0)))
    (a:Addr) (m c:Nat) (news:List Value) (hl:news.length=m * i.size) (hnews:∀ j u,news[j]? = some u→w.cell? (a.add j)=some u) (h1:∀ u∈news,u.oneCell'=true)
    (hroom:sLen+m≤sCap) (hfit:off+sLen * i.size+news.length≤cur.size) :
    (Builtin.append_ #[t,t] ty #[.slice (some ⟨g,off,none⟩) sLen sCap,.slice (some a) m c]).run P w =
      .ok (.slice (some ⟨g,off,none⟩) (sLen+m) sCap) (w.setRow g (cur.toList.take (off+sLen * i.size)++news++cur.toList.drop (off+sLen * i.size+news.length)).toArray):=by
  have hf:=run_firstCells_some (P:=P) w i.size m a m c news hl hnews;have hst:=run_storeCells_at P g (off+sLen * i.size) e news 0 cur w hg (by simpa using hfit) h1;simp only[Nat.add_zero]at hst;simp[Builtin.append_,run_underlying ht,sizeOf,typeInfo,hi,Builtin.lenOf,hroom,hf,Addr.add_lit,hst]
theorem VG {P:Program} (w:World) (L:Nat→Nat) (role:Nat) (hrole:∀ k,w.heap.size≤k→L k=0) (hr0:role≠0) (t ty e:TypeId) (i:TypeInfo) (z:Value) (size bytes:Nat) (ht:P.underlying t=some (.slice e)) (hi:P.info? e=some i) (hz:i.zero=some z)
    (hsize:i.size=size) (hby:i.bytes=bytes) (hzs:z.cells.size=size) (hsz:0<size)
    (v:Value) (n:Nat) (xs:List Value) (hown:RowT w L role e size v n xs)
    (a:Addr) (c:Nat) (news:List Value) (hl:news.length=size) (hnews:∀ j u,news[j]? = some u→w.cell? (a.add j)=some u) (h1:∀ u∈news,u.oneCell'=true)
    (h63:n+1≤maxLen) (hbytes:(n+1) * bytes≤140737488355328) :
    ∃ g off cap w' L',(Builtin.append_ #[t,t] ty #[v,.slice (some a) 1 c]).run P w=.ok (.slice (some ⟨g,off,none⟩) (n+1) cap) w'∧RowT w' L' role e size (.slice (some ⟨g,off,none⟩) (n+1) cap) (n+1) (xs++news)∧Grw role L L' w w':=by
  subst hsize;subst hby
  have hsmall:n+1≤9223372036854775807:=by simp only[maxLen]at h63;omega
  have hlen:(xs++news).length=(n+1) * i.size:=by rw[List.length_append,hown.1,hl,A3];omega
  have hl1:news.length=1 * i.size:=by omega
  have grown:∀ (old:Nat),old<n+1→(∀ b:Value,True) →
      RowT (w.drew.alloc (.cells (xs.toArray++news.toArray++Builtin.zeroCells z.cells (grownCap w (n+1) old e - (n+1))) e)) (fun k=>if k=w.heap.size then role else L k) role e i.size
        (.slice (some ⟨w.heap.size,0,none⟩) (n+1) (grownCap w (n+1) old e)) (n+1) (xs++news) ∧
      Grw role L (fun k=>if k=w.heap.size then role else L k) w (w.drew.alloc (.cells (xs.toArray++news.toArray++Builtin.zeroCells z.cells (grownCap w (n+1) old e - (n+1))) e)):=by
    intro old ho _;have hge:=grownCap_ge w (n+1) old e;have hcm:grownCap w (n+1) old e≤maxLen:=grownCap_le_maxLen w (n+1) old e h63;refine⟨⟨hlen,.inr ⟨w.heap.size,0,_,_,rfl,by simp,heap_alloc_new w.drew _,hge,hcm,C8 ?_,?_⟩⟩,?_⟩
    · simp only[Array.size_append,List.size_toArray,size_zeroCells,hzs,hown.1,hl]
      rw[show n * i.size+i.size=(n+1) * i.size by rw[A3];omega,← A3,D1]
      congr 1
      omega
    · simp only[Array.toList_append,B7,List.drop_zero]
      rw[← B7,← hlen];exact List.take_left
    · have h1:Grw role L (fun k=>if k=w.drew.heap.size then role else L k) w.drew (w.drew.alloc (.cells (xs.toArray++news.toArray++Builtin.zeroCells z.cells (grownCap w (n+1) old e - (n+1))) e)):=Grw.alloc _ hrole
      exact⟨⟨h1.mv.os,h1.mv.tape,h1.mv.output,h1.mv.size,h1.mv.keep,h1.mv.grow⟩,h1.same,h1.oth,h1.new⟩
  rcases hown.2 with ⟨rfl,rfl⟩ | ⟨g,off,cap,cur,rfl,hbg,hg,hnc,hcm,hcs,htake⟩
  · have hx:xs=[]:=D0 (by simpa using hown.1)
    subst hx;have hr:=run_append_nil (P:=P) w t ty e i z ht hi hz a 1 c news hl1 hnews (by omega) (by omega) (by have hb:=hbytes;simp only[D1]at hb;omega);have hgr:=grown 0 (by omega) (fun _=>trivial);simp only[D1,List.nil_append,Array.empty_append]at hgr ⊢;exact⟨_,_,_,_,_,hr,hgr⟩
  · by_cases hroom:n+1≤cap
    · have hfit:off+n * i.size+news.length≤cur.size:=by
        rw[hl];have:=Nat.mul_le_mul_right i.size hroom;rw[A3]at this;omega
      have hr:=NW (P:=P) w t ty e i ht hi g off n cap cur hg a 1 c news hl1 hnews h1 hroom hfit;refine⟨_,_,_,_,L,hr,⟨hlen,.inr ⟨g,off,cap,_,rfl,hbg,setRow_heap w g cur _ e _ hg,hroom,hcm,?_,?_⟩⟩,⟨⟨rfl,rfl,rfl,by simp,fun k hk h0=>setRow_other w g k _ (fun e=>?_),fun k hk=>.inl hk⟩,fun k _=>rfl,fun k hk hne=>setRow_other w g k _ (fun e=>hne (by rw[e];exact hbg)),fun k hk h0=>absurd (hrole k hk) h0⟩⟩
      · simp only[List.size_toArray,List.length_append,List.length_take,List.length_drop,A4]
        omega
      · have h2:(cur.toList.take (off+n * i.size)).drop off=xs:=by rw[List.drop_take,← htake];congr 1;omega
        have h3:off≤(cur.toList.take (off+n * i.size)).length:=by rw[List.length_take,A4];omega
        have hc1:off+n * i.size≤cur.toList.length:=by rw[A4];omega
        show (((cur.toList.take (off+n * i.size)++news++cur.toList.drop (off+n * i.size+news.length))).drop off).take ((n+1) * i.size)=xs++news;rw[B7,List.drop_append_of_le_length h3,h2,← B7,← hlen];exact List.take_left
      · rw[e,hbg]at h0;exact hr0 h0
    · have holds:∀ j u,xs[j]? = some u→w.cell? ((⟨g,off,none⟩:Addr).add j)=some u:=fun j u hu=>by
        rw[Addr.add_mid];exact hown.cell hu
      have hr:=run_append_grow (P:=P) w t ty e i z ht hi hz ⟨g,off,none⟩ n cap xs hown.1 holds a 1 c news hl1 hnews (by omega) (by omega) (growslice_fits (by omega) hbytes);have hgr:=grown cap (by omega) (fun _=>trivial);exact⟨_,_,_,_,_,hr,hgr⟩
theorem ZQ {P:Program} {ops:Array Oper} {o:Oper} {a:Act} {w:World} {K:Act→World→Prop} {Q:Exit→Act→World→Prop} {E:Prop} (hgd:o.guard=none) (s x:Operand) (t:TypeId)
    (ho:o.op=.call { callee:=.builtin .append,args:=#[s,x],argTypes:=#[t,t] }) {L:Nat→Nat} {role:Nat} (hrole:∀ k,w.heap.size≤k→L k=0) (hr0:role≠0) (e:TypeId) (z:Value) (size bytes:Nat) (ht:P.underlying t=some (.slice e))
    (hinfo:(P.info? e).map (fun i=>(i.zero,i.size,i.bytes))=some (some z,size,bytes)) (hzs:z.cells.size=size) (hsz:0<size)
    {v:Value} {n:Nat} {xs:List Value} (hs:a.eval s=v) (hown:RowT w L role e size v n xs)
    {ad:Addr} {c:Nat} {news:List Value} (hx:a.eval x=.slice (some ad) 1 c) (hl:news.length=size) (hnews:∀ j u,news[j]? = some u→w.cell? (ad.add j)=some u) (h1:∀ u∈news,u.oneCell'=true)
    (h63:n+1≤maxLen) (hbytes:(n+1) * bytes≤140737488355328)
    (h:∀ g off cap w' L',RowT w' L' role e size (.slice (some ⟨g,off,none⟩) (n+1) cap) (n+1) (xs++news)→Grw role L L' w w'→K (a.put o.dst (.slice (some ⟨g,off,none⟩) (n+1) cap)) w') :
    if D2 o (yielded ops a.tmps)=true then Oper.wp P o a w K Q else E:=by
  have hw:D2 o (yielded ops a.tmps)=true:=by simp[D2,hgd]
  rw[if_pos hw];obtain⟨i,hi,hz,hsize,hby⟩:=info_parts hinfo;obtain⟨g,off,cap,w',L',hr,h2,h3⟩:=VG (P:=P) w L role hrole hr0 t o.type e i z size bytes ht hi hz hsize hby hzs hsz v n xs hown ad c news hl hnews h1 h63 hbytes;unfold Oper.wp execOp;simp only[ho,resolve,invoke,builtin,Sem.run_bind,Sem.run_pure,Result.andThen_ok,List.map_toArray,A1,List.map_nil,hs,hx,hr];exact h g off cap w' L' h2 h3
theorem XW {P:Program} {ops:Array Oper} {rest:List Oper} {o:Oper} {a:Act} {w:World} {Q:Exit→Act→World→Prop} (hgd:o.guard=none) (s x:Operand) (t:TypeId)
    (ho:o.op=.call { callee:=.builtin .append,args:=#[s,x],argTypes:=#[t,t] }) {L:Nat→Nat} {role:Nat} (hrole:∀ k,w.heap.size≤k→L k=0) (hr0:role≠0) (e:TypeId) (z:Value) (size bytes:Nat) (ht:P.underlying t=some (.slice e))
    (hinfo:(P.info? e).map (fun i=>(i.zero,i.size,i.bytes))=some (some z,size,bytes)) (hzs:z.cells.size=size) (hsz:0<size)
    {v:Value} {n:Nat} {xs:List Value} (hs:a.eval s=v) (hown:RowT w L role e size v n xs)
    {ad:Addr} {c:Nat} {news:List Value} (hx:a.eval x=.slice (some ad) 1 c) (hl:news.length=size) (hnews:∀ j u,news[j]? = some u→w.cell? (ad.add j)=some u) (h1:∀ u∈news,u.oneCell'=true)
    (h63:n+1≤maxLen) (hbytes:(n+1) * bytes≤140737488355328)
    (h:∀ g off cap w' L',RowT w' L' role e size (.slice (some ⟨g,off,none⟩) (n+1) cap) (n+1) (xs++news)→Grw role L L' w w'→wpList P ops Q rest (a.put o.dst (.slice (some ⟨g,off,none⟩) (n+1) cap)) w'):wpList P ops Q (o::rest) a w:=by
  obtain⟨i,hi,hz,hsize,hby⟩:=info_parts hinfo;obtain⟨g,off,cap,w',L',hr,h2,h3⟩:=VG (P:=P) w L role hrole hr0 t o.type e i z size bytes ht hi hz hsize hby hzs hsz v n xs hown ad c news hl hnews h1 h63 hbytes
  refine wpList_plain hgd fun K hK=>?_
  unfold Oper.wp execOp;simp only[ho,resolve,invoke,builtin,Sem.run_bind,Sem.run_pure,Result.andThen_ok,List.map_toArray,A1,List.map_nil,hs,hx,hr];exact hK _ _ (h g off cap w' L' h2 h3)
end Go.Proofs
namespace Go.Proofs
open Go.RowKit Go.AM
open Go.ChangeMaps (setBlock)
def IterZ (w:World) (gi bm:Nat) (es:Array MapEntry) (clock:Nat) (rem:List Int):Prop :=
 ∃ seen c0,w.heap[gi]? = some (.mapIter (some bm) clock seen c0)∧clock≤c0∧rem.length=(leftOf es seen).size∧∀ (j:Nat) f e,rem[j]? = some f→(leftOf es seen)[j]? = some e→e.key=.int .i64 f
theorem IterZ.of {w w':World} {gi bm:Nat} {es:Array MapEntry} {clock:Nat} {rem:List Int} (h:IterZ w gi bm es clock rem) (hb:w'.heap[gi]? = w.heap[gi]?):IterZ w' gi bm es clock rem:=by
 obtain⟨seen,c0,h1,h2⟩:=h;exact⟨seen,c0,hb.trans h1,h2⟩
theorem IterZ.lt {w:World} {gi bm:Nat} {es:Array MapEntry} {clock:Nat} {rem:List Int} (h:IterZ w gi bm es clock rem):gi<w.heap.size:=by
 obtain⟨seen,c0,h1,h2⟩:=h;exact lt_of_block h1
theorem IterZ.start {w:World} {gi bm:Nat} {es:Array MapEntry} {clock:Nat} {fs:List Int} (h:w.heap[gi]? = some (.mapIter (some bm) clock #[] clock)) (hl:fs.length=es.size) (hk:∀ (j:Nat) f e,fs[j]? = some f→es[j]? = some e→e.key=.int .i64 f):IterZ w gi bm es clock fs:=by
 have:leftOf es #[]=es:=by
  unfold leftOf;rw[Array.filter_eq_self];simp
 refine⟨#[],clock,h,B5 _,by rw[this];exact hl,fun j f e hf he=>?_⟩;rw[this]at he;exact hk j f e hf he
theorem IterZ.next {w:World} {gi bm:Nat} {es:Array MapEntry} {clock:Nat} {rem:List Int} (h:IterZ w gi bm es clock rem) (hb:w.heap[bm]? = some (.map es clock)) (hs:MapKept.Stamped es clock) :
  (rem=[]∧∀ ty,(Instr.next (.pointer (some ⟨gi,0,none⟩)) false ty).run Try.prog w=.ok (.tuple #[.bool false]) w) ∨
  ∃ (j:Nat) (f:Int) (e:MapEntry) (w1:World),rem[j]? = some f∧e∈es.toList∧e.key=.int .i64 f∧(∀ ty,(Instr.next (.pointer (some ⟨gi,0,none⟩)) false ty).run Try.prog w=.ok (.tuple #[.bool true,.int .i64 f,e.val]) w1)∧w.grownBy w1 (some gi)∧w1.heap.size=w.heap.size∧IterZ w1 gi bm es clock (rem.eraseIdx j) ∧
   ∀ w2,w2.heap[gi]? = w1.heap[gi]?→w2.heap[bm]? = some (.map es clock)→(Instr.entry (.pointer (some ⟨gi,0,none⟩))).run Try.prog w2=.ok (.tuple #[.int .i64 f,e.val]) w2:=by
 obtain⟨seen,c0,h1,h2,h3,h4⟩:=h;obtain⟨hb1,hb2,hb3⟩:=hs
 rcases qcK (P:=Try.prog) 0 h1 hb hb1 h2 with ⟨r1,r2⟩ | ⟨j,hj,w1,hw1,r2⟩
 ·exact .inl ⟨D0 (by omega),fun _=>r2⟩
 ·right
  have hjr:j<rem.length:=by omega
  have hk:=h4 j _ _ (D6 hjr) (D3 hj)
  have hg1:w1.heap[gi]? = some (.mapIter (some bm) clock seen c0):=by
   rcases hw1 with rfl | rfl
   ·exact h1
   ·exact h1
  have hl:=Ht hb2 hj
  have hsz:(leftOf es (seen.push (leftOf es seen)[j].born)).size=(leftOf es seen).size - 1:=by
   rw[← A4,hl,A8,if_pos (by simpa using hj),A4]
  have hm:(leftOf es seen)[j]∈leftOf es seen:=Array.getElem_mem hj;unfold leftOf at hm;have hm2:=(Array.mem_filter.1 hm).1;rw[hk]at r2;refine⟨j,rem[j],(leftOf es seen)[j],_,D6 hjr,Array.mem_toList_iff.2 hm2,hk,fun _=>r2,?_,?_,⟨_,clock,Go.AM.Qh hg1,B5 _,?_,?_⟩,fun w2 e1 e2=>?_⟩
  ·rcases hw1 with rfl | rfl
   ·exact XB hg1
   ·obtain⟨t1,t2,t3,t4,t5⟩:=XB (o':=.mapIter (some bm) clock (seen.push (leftOf es seen)[j].born) clock) hg1;exact⟨t1,t2,t3,t4,t5⟩
  ·rcases hw1 with rfl | rfl <;> simp[setBlock]
  ·rw[A8,if_pos hjr,hsz,h3]
  ·intro i f e hf he;rw[← A5,hl,A9]at he;rw[A9]at hf;split at he
   ·rename_i hij;rw[if_pos hij]at hf;exact h4 i f e hf (by rw[← A5];exact he)
   ·rename_i hij;rw[if_neg hij]at hf;exact h4 (i+1) f e hf (by rw[← A5];exact he)
  ·rw[← hk];exact run_entry_at w2 gi bm clock seen es clock _ (by rw[e1];exact Go.AM.Qh hg1) e2 (Array.mem_toList_iff.2 hm2) hb2
theorem qdi {w:World} {gi:Nat} (h:w.heap[gi]? = some (.mapIter none 0 #[] 0)) (ty:TypeId):(Instr.next (.pointer (some ⟨gi,0,none⟩)) false ty).run Try.prog w=.ok (.tuple #[.bool false]) w:=by
 simp[Instr.next,getObj,Sem.run,h,A2]
theorem Zi {α:Type} [BEq α] [LawfulBEq α]:∀ (l u:List α),l.Nodup→(∀ x,x∈l→x∈u)→l.length≤u.length
 | [],_,_,_=>Nat.zero_le _
 | x::l,u,hn,hs=>by
  rw[D4]at hn;have hx:=hs x (.head _)
  have:=Zi l (u.erase x) hn.2 fun y hy=>(List.mem_erase_of_ne (fun (e:y=x)=>hn.1 (by rw[← e];exact hy))).2 (hs y (.tail _ hy))
  rw[List.length_erase_of_mem hx]at this;have h0:0<u.length:=List.length_pos_of_mem hx;simp;omega
theorem Nm {x:Int} (h1:1≤x) (h2:x≤6):x∈[(1:Int),2,3,4,5,6]:=by
 have:x=1∨x=2∨x=3∨x=4∨x=5∨x=6:=by omega
 simpa using this
theorem qbM {x:Int} (h1:0≤x) (h2:x≤6):wfI .i64 x=true:=by
 have:x=0∨x=1∨x=2∨x=3∨x=4∨x=5∨x=6:=by omega
 rcases this with rfl | rfl | rfl | rfl | rfl | rfl | rfl <;> rfl
def ShB (w:World) (L:Nat→Nat) (role:Nat) (m:Option Nat) (f:Int→Bool):Prop :=
 (m=none∧∀ x,f x=false)∨∃ g l,m=some g∧L g=role∧MapAt (fun _ _=>none) w g (AV.int .i64) AV.bool l∧(l.map A0).Nodup∧∀ x,f x=true↔x∈l.map A0
theorem ShB.grw {w w':World} {L L':Nat→Nat} {role r:Nat} {m:Option Nat} {f:Int→Bool} (h:ShB w L role m f) (hg:Grw r L L' w w') (hr:role≠r):ShB w' L' role m f:=by
 rcases h with h | ⟨g,l,h1,h2,h3,h4⟩
 ·exact .inl h
 ·exact .inr ⟨g,l,h1,by rw[hg.same g h3.lt];exact h2,h3.of (hg.oth g h3.lt (by omega)),h4⟩
theorem mset_keys {V:Type} (k:Int) (v:V):∀ l:List (Int×V),(mset keq1 k v l).map A0=if k∈l.map A0 then l.map A0 else l.map A0++[k]
 | []=>rfl
 | p::r=>by
  unfold mset
  cases hq:keq1 p.1 k with
  | true =>
   have:p.1=k:=by simpa[keq1] using hq
   subst this;simp
  | false =>
   have:¬ p.1=k:=by simpa[keq1] using hq
   simp only[cN,A1,mset_keys k v r,B9];by_cases h:k∈r.map A0
   ·rw[if_pos h,if_pos (.inr h)]
   ·rw[if_neg h,if_neg (by rintro (e | e);exact this e.symm;exact h e)];rfl
theorem ShB.add {w:World} {L:Nat→Nat} {role g:Nat} {f:Int→Bool} (h:ShB w L role (some g) f) (hf:∀ x,f x=true→1≤x∧x≤6) {t:Int} (h1:1≤t) (h6:t≤6) :
  L g=role∧∃ o',(∀ w',w'.heap=w.heap→(Instr.mapUpdate 83 (.map (some g)) (.int .i64 t) (.bool true)).run Try.prog w'=.ok () (setBlock w' g o'))∧∀ w',w'.heap=w.heap→ShB (setBlock w' g o') L role (some g) (fun y=>if y=t then true else f y):=by
 rcases h with ⟨h0,_⟩ | ⟨g',l,h0,h2,⟨es,clock,hb,hE⟩,h4,h5⟩
 ·cases h0
 ·cases h0
  have hk:(AV.int .i64 t).keyV=some (.int .i64 t):=by simp only[AV.keyV,qbM (by omega) h6]
  have hlen:l.length<1000000000:=by
   have:=Zi (l.map A0) [(1:Int),2,3,4,5,6] h4 fun x hx=>by
    have:=hf x ((h5 x).2 hx);exact Nm this.1 this.2
   simp at this;omega
  obtain⟨es',clock',hE',hU⟩:=Try.update_own (t:=83) (kt:=3) (e:=4) (eq:=keq1) (G:=AV.bool) hE (by kernel_rfl) fits3 Vv (k:=t) (v:=true) hk (.bool true) hlen;refine⟨h2,_,fun w' hw=>hU w' g (by rw[hw];exact hb),fun w' hw=>.inr ⟨g,mset keq1 t true l,rfl,h2,⟨es',clock',Go.AM.Qh (by rw[hw];exact hb),hE'⟩,?_,fun x=>?_⟩⟩
  ·rw[mset_keys];split
   ·exact h4
   ·rename_i hn;rw[D5];exact⟨h4,by simp,fun a ha b hb e=>hn (by simp at hb;rw[← hb,← e];exact ha)⟩
  ·rw[mset_keys];show (if x=t then true else f x)=true↔_;by_cases hx:x=t
   ·rw[hx,if_pos rfl];by_cases hn:t∈l.map A0
    ·rw[if_pos hn];exact⟨fun _=>hn,fun _=>rfl⟩
    ·rw[if_neg hn];exact⟨fun _=>List.mem_append_right _ (.head _),fun _=>rfl⟩
   ·rw[if_neg hx,h5 x];split
    ·rfl
    ·simp[hx]
theorem ShB.del {w:World} {L:Nat→Nat} {role:Nat} {m:Option Nat} {f:Int→Bool} (h:ShB w L role m f) {t:Int} (h1:1≤t) (h6:t≤6) :
  ∃ w1,(∀ ty,(Builtin.delete_ #[83,3] ty #[.map m,.int .i64 t]).run Try.prog w=.ok (.tuple #[]) w1)∧ShB w1 L role m (fun y=>if y=t then false else f y)∧(role≠0→(∀ k,w.heap.size≤k→L k=0)→Grw role L L w w1):=by
 have ht:Try.prog.underlying 83=some (.map 3 4):=Try.underlying83
 have hk:(AV.int .i64 t).keyV=some (.int .i64 t):=by simp only[AV.keyV,qbM (by omega) h6]
 rcases h with ⟨h0,h2⟩ | ⟨g,l,h0,h2,⟨es,clock,hb,hE⟩,h4,h5⟩
 ·subst h0;refine⟨w,fun ty=>?_,.inl ⟨rfl,fun x=>?_⟩,fun _ hi=>⟨Mvs.refl _ _,fun _ _=>rfl,fun _ _ _=>rfl,fun k h1 h2=>absurd (hi k h1) h2⟩⟩
  ·obtain⟨hck,_,_⟩:=Xm (P:=Try.prog) (w:=w) (fits3 t) hk (show ([]:List AV).all (keyFits Try.prog 3)=true from rfl) (M:=fun _ _=>none) (es:=#[]) (clock:=0) (vs:=[]) ⟨(MapKept.stamped_iff _ _).2 ⟨by simp,by simp,by simp⟩,Nat.zero_le _,rfl,rfl,fun j k e hk=>by simp at hk,fun j k e hk=>by simp at hk⟩;simp[Builtin.delete_,run_underlying ht,hck,A2]
  ·show (if x=t then false else f x)=false;split
   ·rfl
   ·exact h2 x
 ·subst h0;obtain⟨hck,hst,hfd⟩:=Xm (P:=Try.prog) (w:=w) (fits3 t) hk (Vd fits3 l) hE;obtain⟨e2,e3,e4,e5,e6,e7⟩:=hE
  have hkeys:∀ j,findA (AV.int .i64 t) (l.map fun p=>AV.int .i64 p.1)=some j→(l.map A0)[j]? = some t:=by
   clear e4 e5 e6 e7 hfd h4 h5 e2 e3
   induction l with
   | nil=>intro j h;cases h
   | cons p r ih =>
    intro j h;simp only[A1,findA,Vv]at h
    cases hq:keq1 p.1 t with
    | true =>
     rw[hq]at h;simp only[cT,Option.some.injEq]at h;subst h
     simpa[keq1] using hq
    | false =>
     rw[hq]at h;simp only[cN]at h
     cases hr:findA (AV.int .i64 t) (r.map fun p=>AV.int .i64 p.1) with
     | none=>rw[hr]at h;simp at h
     | some i =>
      rw[hr]at h;simp only[Option.map_some,Option.some.injEq]at h;subst h
      simpa using ih i hr
  have hkn:findA (AV.int .i64 t) (l.map fun p=>AV.int .i64 p.1)=none→t ∉ l.map A0:=by
   clear e4 e5 e6 e7 hfd h4 h5 e2 e3 hkeys
   induction l with
   | nil=>intro h hm;simp at hm
   | cons p r ih =>
    intro h;simp only[A1,findA,Vv]at h
    cases hq:keq1 p.1 t with
    | true=>rw[hq]at h;simp at h
    | false =>
     rw[hq]at h;simp only[cN]at h
     have hp:¬ p.1=t:=by simpa[keq1] using hq
     rw[A1,B9]
     cases hr:findA (AV.int .i64 t) (r.map fun p=>AV.int .i64 p.1) with
     | some i=>rw[hr]at h;simp at h
     | none =>
      rintro (e | e)
      ·exact hp e.symm
      ·exact ih hr e
  rcases hfd with ⟨k1,k2,k3⟩ | ⟨j,e0,k1,k2,k3,k4⟩
  ·refine⟨setBlock w g (.map es clock),fun ty=>?_,.inr ⟨g,l,rfl,h2,⟨es,clock,Go.AM.Qh hb,e2,e3,e4,e5,e6,e7⟩,h4,fun x=>?_⟩,fun h0 hi=>Grw.setBlock _ h2 h0 hi⟩
   ·simp[Builtin.delete_,run_underlying ht,A6 hb,hck,k2,C4 _ hb,A2,setBlock]
   ·show (if x=t then false else f x)=true↔_;by_cases hx:x=t
    ·rw[hx,if_pos rfl];exact⟨fun h=>(by cases h),fun h=>absurd h (hkn k1)⟩
    ·rw[if_neg hx];exact h5 x
  ·have hjl:j<es.toList.length:=(List.getElem?_eq_some_iff.1 k3).1
   have hjs:j<es.size:=by simpa using hjl
   have hsub:(es.eraseIdxIfInBounds j).toList=es.toList.eraseIdx j:=by
    unfold Array.eraseIdxIfInBounds;rw[dif_pos hjs];simp
   have hsz:(es.eraseIdxIfInBounds j).size=es.size - 1:=by
    rw[← A4,hsub,A8,if_pos hjl,A4]
   have hfj:=hkeys j k1
   have hmapE:∀ {α β:Type} (F:α→β) (l:List α) (j:Nat),(l.map F).eraseIdx j=(l.eraseIdx j).map F:=fun {α β} F l=>by
    induction l with
    | nil=>intro j;simp
    | cons a l ih=>intro j;cases j with
     | zero=>rfl
     | succ j=>simp[ih j]
   have hget:∀ {α:Type} (F:Int×Bool→α) (i:Nat),((l.eraseIdx j).map F)[i]? = if i<j then (l.map F)[i]? else (l.map F)[i+1]?:=fun F i=>by
    rw[← hmapE,A9]
   have hjl2:j<(l.map A0).length:=(List.getElem?_eq_some_iff.1 hfj).1;refine⟨setBlock w g (.map (es.eraseIdxIfInBounds j) clock),fun ty=>?_,.inr ⟨g,l.eraseIdx j,rfl,h2,⟨_,_,Go.AM.Qh hb,MapKept.stamped_erase e2 j,by omega,?_,?_,fun i k e hk he=>?_,fun i v e hv he=>?_⟩,?_,fun x=>?_⟩,fun h0 hi=>Grw.setBlock _ h2 h0 hi⟩
   ·simp[Builtin.delete_,run_underlying ht,A6 hb,hck,k2,C4 _ hb,A2,setBlock]
   ·rw[hsz,List.length_map,A8,if_pos (by simp at e4;omega)];simp at e4;omega
   ·rw[hsz,List.length_map,A8,if_pos (by simp at e4;omega)];simp at e4;omega
   ·rw[hget]at hk;rw[← A5,hsub,A9]at he;split at he
    ·rename_i hij;rw[if_pos hij]at hk;exact e6 i k e hk (by simpa using he)
    ·rename_i hij;rw[if_neg hij]at hk;exact e6 (i+1) k e hk (by simpa using he)
   ·rw[hget]at hv;rw[← A5,hsub,A9]at he;split at he
    ·rename_i hij;rw[if_pos hij]at hv;exact e7 i v e hv (by simpa using he)
    ·rename_i hij;rw[if_neg hij]at hv;exact e7 (i+1) v e hv (by simpa using he)
   ·rw[← hmapE];exact (List.eraseIdx_sublist _ _).nodup h4
   ·show (if x=t then false else f x)=true↔_
    obtain⟨X1,X2,hX,hY⟩:∃ A B,l.map A0=A++t::B∧(l.map A0).eraseIdx j=A++B:=by
     refine⟨(l.map A0).take j,(l.map A0).drop (j+1),?_,List.eraseIdx_eq_take_drop_succ _ _⟩;obtain⟨h7,h8⟩:=List.getElem?_eq_some_iff.1 hfj;have h9:=List.getElem_cons_drop h7;rw[h8]at h9;rw[h9,List.take_append_drop]
    have hnd:=h4;rw[hX,D5]at hnd;obtain⟨n1,n2,n3⟩:=hnd;rw[D4]at n2;rw[← hmapE,hY];by_cases hx:x=t
    ·rw[hx,if_pos rfl];constructor
     ·intro h;cases h
     ·intro h
      rcases List.mem_append.1 h with h | h
      ·exact absurd rfl (n3 _ h _ (.head _))
      ·exact absurd h n2.1
    ·rw[if_neg hx,h5 x,hX,List.mem_append,List.mem_append,B9];constructor
     ·rintro (h | h | h)
      ·exact .inl h
      ·exact absurd h hx
      ·exact .inr h
     ·rintro (h | h)
      ·exact .inl h
      ·exact .inr (.inr h)
end Go.Proofs
namespace Go.Proofs
open Go.RowKit Go.AM
open Go.ChangeMaps (setBlock)
def opsC (l:List hsOp):List Value:=l.flatMap fun o=>[.int .i64 o.qb,.int .i64 o.qh,.int .i64 o.qi]
def heldC (l:List (hsOp×Int)):List Value:=l.flatMap fun p=>[.int .i64 p.1.qb,.int .i64 p.1.qh,.int .i64 p.1.qi,.int .i64 p.2]
theorem qdh (l m:List hsOp):opsC (l++m)=opsC l++opsC m:=by simp[opsC]
theorem qcl (l m:List (hsOp×Int)):heldC (l++m)=heldC l++heldC m:=by simp[heldC]
abbrev kH (bl:List (Int×List (hsOp×Int))):List AV:=bl.map fun p=>AV.int .i64 p.1
abbrev tH (bl:List (Int×List (hsOp×Int))):List AV:=bl.map fun _=>AV.top
structure WtB (w:World) (L:Nat→Nat) (gw:Nat) (es:Array MapEntry) (ck:Nat) (bl:List (Int×List (hsOp×Int))):Prop where
 at':w.heap[gw]? = some (.map es ck)
 ent:EntOk (fun _ _=>none) es ck (kH bl) (tH bl)
 nd:(bl.map A0).Nodup
 rng:∀ p,p∈bl→1≤p.1∧p.1≤6
 row:∀ (j:Nat) p e,bl[j]? = some p→es[j]? = some e→RowT w L (20+p.1.toNat) 104 4 e.val p.2.length (heldC p.2)
theorem WtB.lt {w:World} {L:Nat→Nat} {gw:Nat} {es:Array MapEntry} {ck:Nat} {bl:List (Int×List (hsOp×Int))} (h:WtB w L gw es ck bl):gw<w.heap.size:=lt_of_block h.at'
theorem WtB.grw {w w':World} {L L':Nat→Nat} {gw r:Nat} {es:Array MapEntry} {ck:Nat} {bl:List (Int×List (hsOp×Int))} (h:WtB w L gw es ck bl) (hg:Grw r L L' w w') (hL:L gw=2) (h2:r≠2) (hr:r<20):WtB w' L' gw es ck bl :=
 ⟨(hg.oth gw h.lt (by omega)).trans h.at',h.ent,h.nd,h.rng,fun j p e hp he=>(h.row j p e hp he).grw hg (by omega)⟩
theorem ZK (k:Int):∀ bl:List (Int×List (hsOp×Int)),(∃ j l,findA (AV.int .i64 k) (kH bl)=some j∧bl[j]? = some (k,l)∧mget keq1 [] k bl=l∧∀ m,mset keq1 k m bl=bl.set j (k,m))∨(findA (AV.int .i64 k) (kH bl)=none∧mget keq1 [] k bl=[]∧k ∉ bl.map A0∧∀ m,mset keq1 k m bl=bl++[(k,m)])
 | []=>.inr ⟨rfl,rfl,by simp,fun m=>rfl⟩
 | p::r=>by
  have ih:=ZK k r;simp only[kH,A1,findA,mget,mset,Vv]at ih ⊢
  cases hq:keq1 p.1 k with
  | true =>
   have:p.1=k:=by simpa[keq1] using hq
   subst this;exact .inl ⟨0,p.2,rfl,rfl,rfl,fun m=>rfl⟩
  | false =>
   have hne:¬ p.1=k:=by simpa[keq1] using hq
   simp only[cN]
   rcases ih with ⟨j,l,h1,h2,h3,h4⟩ | ⟨h1,h2,h3,h4⟩
   ·rw[h1];exact .inl ⟨j+1,l,rfl,by simpa using h2,h3,fun m=>by rw[h4];rfl⟩
   ·rw[h1];refine .inr ⟨rfl,h2,?_,fun m=>by rw[h4];rfl⟩;rw[B9]
    rintro (e | e)
    ·exact hne e.symm
    ·exact h3 e
theorem Dn (k t:Int) (l:List (hsOp×Int)):∀ bl:List (Int×List (hsOp×Int)),mget keq1 [] t (mset keq1 k l bl)=if t=k then l else mget keq1 [] t bl
 | []=>by
  simp only[mset,mget,keq1];by_cases h:t=k
  ·subst h;simp
  ·have:(k == t)=false:=by simp;omega
   simp[this,h]
 | p::r=>by
  have ih:=Dn k t l r;simp only[mset]
  cases hq:keq1 p.1 k with
  | true =>
   have hpk:p.1=k:=by simpa[keq1] using hq
   simp only[cT,mget,keq1,hpk];by_cases h:t=k
   ·subst h;simp
   ·have h2:(k == t)=false:=by simp;omega
    rw[h2];simp[h]
  | false =>
   have hpk:¬ p.1=k:=by simpa[keq1] using hq
   simp only[cN,mget];rw[ih];by_cases h:t=k
   ·subst h;rw[hq];simp
   ·simp[h]
theorem DK {V:Type} (z:V):∀ (bl:List (Int×V)) (p:Int×V),(bl.map A0).Nodup→p∈bl→mget keq1 z p.1 bl=p.2
 | q::r,p,hn,hp=>by
  rw[A1,D4]at hn;unfold mget
  rcases List.mem_cons.1 hp with rfl | hp
  ·simp[keq1]
  ·have:keq1 q.1 p.1=false:=by
    simp only[keq1,beq_eq_false_iff_ne]
    exact fun e=>hn.1 (by rw[e];exact List.mem_map.2 ⟨p,hp,rfl⟩)
   rw[this];exact DK z r p hn.2 hp
theorem WtB.len {w:World} {L:Nat→Nat} {gw:Nat} {es:Array MapEntry} {ck:Nat} {bl:List (Int×List (hsOp×Int))} (h:WtB w L gw es ck bl):bl.length≤6:=by
 have:=Zi (bl.map A0) [(1:Int),2,3,4,5,6] h.nd fun x hx=>by
  obtain⟨p,hp,rfl⟩:=List.mem_map.1 hx;exact Nm (h.rng p hp).1 (h.rng p hp).2
 simpa using this
theorem qbG (bl:List (Int×List (hsOp×Int))):(kH bl).all (keyFits Try.prog 3)=true:=by rw[List.all_map,List.all_eq_true];exact fun p _=>fits3 p.1
theorem DP {k:Int} (h1:0≤k) (h6:k≤6):(AV.int .i64 k).keyV=some (.int .i64 k):=by simp only[AV.keyV,qbM h1 h6]
theorem WtB.lookup {w:World} {L:Nat→Nat} {gw:Nat} {es:Array MapEntry} {ck:Nat} {bl:List (Int×List (hsOp×Int))} (h:WtB w L gw es ck bl) {k:Int} (h1:0≤k) (h6:k≤6) :
  ∃ v,(∀ w',w'.heap[gw]? = some (.map es ck)→(Instr.lookup 96 (.map (some gw)) (.int .i64 k) false).run Try.prog w'=.ok v w')∧RowT w L (20+k.toNat) 104 4 v (mget keq1 [] k bl).length (heldC (mget keq1 [] k bl)):=by
 have ht:Xe Try.prog 96=some (3,102):=by kernel_rfl
 have ht':=Qy ht
 have fnd:=fun w'=>Xm (P:=Try.prog) (w:=w') (fits3 k) (DP h1 h6) (qbG bl) h.ent
 have hzero:∀ w,(zeroValue 102).run Try.prog w=.ok (.slice none 0 0) w:=Try.zeroValue102
 rcases ZK k bl with ⟨j,l,a1,a2,a3,a4⟩ | ⟨a1,a2,_,a3⟩
 ·have hsz:es.size=bl.length:=by have:=h.ent.2.2.1;simpa[kH] using this.symm
  obtain⟨e0,he0⟩:∃ e0,es[j]? = some e0:=by
   have:j<es.size:=by rw[hsz];exact (List.getElem?_eq_some_iff.1 a2).1
   exact⟨_,D3 this⟩
  have hf:∀ w',(Instr.findKey 3 (.int .i64 k) es.toList).run Try.prog w'=.ok (some (j,e0.val)) w':=fun w'=>by
   obtain⟨_,_,hfd⟩:=fnd w'
   rcases hfd with ⟨k1,_,_⟩ | ⟨j',e',k1,k2,k3,k4⟩
   ·rw[a1]at k1;cases k1
   ·rw[a1]at k1;cases k1
    have:es[j]? = some e':=by simpa using k3
    rw[this]at he0;cases he0;exact k2
  rw[a3];refine⟨e0.val,fun w' hb=>?_,h.row j _ e0 a2 he0⟩;obtain⟨hck,_,_⟩:=fnd w';simp[Instr.lookup,run_underlying ht',A6 hb,hck,hf w',he0,A2]
 ·have hf:∀ w',(Instr.findKey 3 (.int .i64 k) es.toList).run Try.prog w'=.ok none w':=fun w'=>by
   obtain⟨_,_,hfd⟩:=fnd w'
   rcases hfd with ⟨k1,k2,k3⟩ | ⟨j',e',k1,k2,k3,k4⟩
   ·exact k2
   ·rw[a1]at k1;cases k1
  rw[a2];refine⟨.slice none 0 0,fun w' hb=>?_,RowT.nil _ _ _ _ _⟩;obtain⟨hck,_,_⟩:=fnd w';simp[Instr.lookup,run_underlying ht',A6 hb,hck,hf w',hzero,A2]
theorem WtB.put {w w2:World} {L L2:Nat→Nat} {gw:Nat} {es:Array MapEntry} {ck:Nat} {bl:List (Int×List (hsOp×Int))} (h:WtB w L gw es ck bl) (hL:L gw=2) {k:Int} (h1:1≤k) (h6:k≤6) (hg:Grw (20+k.toNat) L L2 w w2) {vv:Value} {xs:List (hsOp×Int)} (hv:RowT w2 L2 (20+k.toNat) 104 4 vv xs.length (heldC xs)) :
  ∃ es' ck',(∀ w',w'.heap=w2.heap→(Instr.mapUpdate 96 (.map (some gw)) (.int .i64 k) vv).run Try.prog w'=.ok () (setBlock w' gw (.map es' ck')))∧∀ w',w'.heap=w2.heap→WtB (setBlock w' gw (.map es' ck')) L2 gw es' ck' (mset keq1 k xs bl):=by
 have ht:Xe Try.prog 96=some (3,102):=by kernel_rfl
 have ht':=Qy ht
 have hkv:(AV.int .i64 k).keyV=some (.int .i64 k):=by simp only[AV.keyV,qbM (by omega) h6]
 have fnd:=fun w'=>Xm (P:=Try.prog) (w:=w') (fits3 k) hkv (qbG bl) h.ent
 have hlen:=h.len;obtain⟨q1,E,q3,q4,q5⟩:=h;obtain⟨E1,E2,E3,E4,E5,E6⟩:=E
 have hsz:es.size=bl.length:=by simpa[kH] using E3.symm
 have hgl:gw<w.heap.size:=lt_of_block q1;have hb2:w2.heap[gw]? = some (.map es ck):=(hg.oth gw hgl (by omega)).trans q1;have hL2:L2 gw=2:=(hg.same gw hgl).trans hL
 have kept:∀ (j:Nat) p e,bl[j]? = some p→es[j]? = some e→p.1≠k→∀ w',w'.heap=w2.heap→∀ o,RowT (setBlock w' gw o) L2 (20+p.1.toNat) 104 4 e.val p.2.length (heldC p.2):=by
  intro j p e hp he hne w' hw o;have hr:=q4 p (D7 hp);have h7:=(q5 j p e hp he).grw hg (by omega);exact h7.kept (fun i _ hi=>by rw[Jx (fun e=>by rw[e,hL2]at hi;omega),hw]) (fun _ _ hi=>hi)
 have keptN:∀ w',w'.heap=w2.heap→∀ o,RowT (setBlock w' gw o) L2 (20+k.toNat) 104 4 vv xs.length (heldC xs):=fun w' hw o =>
  hv.kept (fun i _ hi=>by rw[Jx (fun e=>by rw[e,hL2]at hi;omega),hw]) (fun _ _ hi=>hi)
 have hnd2:((mset keq1 k xs bl).map A0).Nodup:=by
  rw[mset_keys];split
  ·exact q3
  ·rename_i hn;rw[D5];exact⟨q3,by simp,fun a ha b hb e=>hn (by simp at hb;rw[← hb,← e];exact ha)⟩
 have hrng2:∀ p,p∈mset keq1 k xs bl→1≤p.1∧p.1≤6:=by
  intro p hp;have hm:p.1∈(mset keq1 k xs bl).map A0:=List.mem_map.2 ⟨p,hp,rfl⟩;rw[mset_keys]at hm
  have:p.1∈bl.map A0∨p.1=k:=by
   split at hm
   ·exact .inl hm
   ·rcases List.mem_append.1 hm with h | h
    ·exact .inl h
    ·exact .inr (by simpa using h)
  rcases this with h | h
  ·obtain⟨q,hq,e⟩:=List.mem_map.1 h;rw[← e];exact q4 q hq
  ·rw[h];exact⟨h1,h6⟩
 rcases ZK k bl with ⟨j,l,a1,a2,a3,a4⟩ | ⟨a1,a2,a0,a3⟩
 ·
  obtain⟨e0,he0⟩:∃ e0,es[j]? = some e0:=by
   have:j<es.size:=by rw[hsz];exact (List.getElem?_eq_some_iff.1 a2).1
   exact⟨_,D3 this⟩
  have hf:∀ w',(Instr.findKey 3 (.int .i64 k) es.toList).run Try.prog w'=.ok (some (j,e0.val)) w'∧e0.key=.int .i64 k:=fun w'=>by
   obtain⟨_,_,hfd⟩:=fnd w'
   rcases hfd with ⟨k1,_,_⟩ | ⟨j',e',k1,k2,k3,k4⟩
   ·rw[a1]at k1;cases k1
   ·rw[a1]at k1;cases k1
    have:es[j]? = some e':=by simpa using k3
    rw[this]at he0;cases he0;exact⟨k2,k4⟩
  refine⟨es.modify j (fun e'=>{ e' with key:=.int .i64 k,val:=vv }),ck,fun w' hw=>?_,fun w' hw=>?_⟩
  ·have hb3:w'.heap[gw]? = some (.map es ck):=by rw[hw];exact hb2
   obtain⟨hck,hst,_⟩:=fnd w';have f4:=(hf w').2;simp[Instr.mapUpdate,run_underlying ht',A6 hb3,hck,(hf w').1,he0,f4,hst,C4 _ hb3,A2,setBlock]
  ·refine⟨Go.AM.Qh (by rw[hw];exact hb2),⟨MapKept.stamped_modify E1 _ _ (fun _ _=>rfl) (fun e' _ he'=>by rw[he0]at he';cases he';exact ((hf w).2).symm),by simpa using E2,?_,?_,fun i k' e' hk' he'=>?_,fun i v' e' hv' he'=>?_⟩,hnd2,hrng2,fun i p e' hp he'=>?_⟩
   ·rw[a4];simp[kH,hsz]
   ·rw[a4];simp[tH,hsz]
   ·rw[a4]at hk';rw[D8]at he';simp only[kH,A7,C5]at hk';obtain⟨p,hp,rfl⟩:=hk';rw[List.getElem?_set]at hp;split at he'
    ·rename_i hij;subst hij;rw[he0]at he';cases he';rw[if_pos rfl]at hp;split at hp
     ·cases hp;exact hkv
     ·cases hp
    ·rename_i hij;rw[if_neg hij]at hp;exact E5 i _ e' (by simp[kH,hp]) he'
   ·simp only[tH,A7,C5]at hv';obtain⟨_,_,rfl⟩:=hv';exact .top _
   ·rw[a4]at hp;rw[D8]at he';rw[List.getElem?_set]at hp;split at he'
    ·rename_i hij;subst hij;rw[he0]at he';cases he';rw[if_pos rfl]at hp;split at hp
     ·cases hp;exact keptN w' hw _
     ·cases hp
    ·rename_i hij;rw[if_neg hij]at hp;refine kept i p e' hp he' (fun e=>?_) w' hw _
     have h8:(bl.map A0)[i]? = some k:=by rw[A7,hp];simp[e]
     have h9:(bl.map A0)[j]? = some k:=by rw[A7,a2];rfl
     exact hij ((List.getElem?_inj (List.getElem?_eq_some_iff.1 h9).1 q3).1 (h9.trans h8.symm))
 ·
  have hf:∀ w',(Instr.findKey 3 (.int .i64 k) es.toList).run Try.prog w'=.ok none w'∧(∀ e∈es.toList,e.key≠.int .i64 k):=fun w'=>by
   obtain⟨_,_,hfd⟩:=fnd w'
   rcases hfd with ⟨k1,k2,k3⟩ | ⟨j',e',k1,k2,k3,k4⟩
   ·exact⟨k2,k3⟩
   ·rw[a1]at k1;cases k1
  refine⟨es.push ⟨.int .i64 k,vv,ck⟩,ck+1,fun w' hw=>?_,fun w' hw=>?_⟩
  ·have hb3:w'.heap[gw]? = some (.map es ck):=by rw[hw];exact hb2
   obtain⟨hck,_,_⟩:=fnd w';simp[Instr.mapUpdate,run_underlying ht',A6 hb3,hck,(hf w').1,C4 _ hb3,A2,setBlock]
  ·refine⟨Go.AM.Qh (by rw[hw];exact hb2),⟨MapKept.stamped_push E1 (hf w).2,by simp[maxLen];omega,?_,?_,fun i k' e' hk' he'=>?_,fun i v' e' hv' he'=>?_⟩,hnd2,hrng2,fun i p e' hp he'=>?_⟩
   ·rw[a3];simp[kH,hsz]
   ·rw[a3];simp[tH,hsz]
   ·rw[a3]at hk';rw[D9]at he';simp only[kH,A7,C5]at hk';obtain⟨p,hp,rfl⟩:=hk';split at he'
    ·rename_i hi;cases he';rw[hi,hsz,E0]at hp;cases hp;exact hkv
    ·have hi:=(Array.getElem?_eq_some_iff.1 he').1;rw[E7 (by omega)]at hp;exact E5 i _ e' (by simp[kH,hp]) he'
   ·simp only[tH,A7,C5]at hv';obtain⟨_,_,rfl⟩:=hv';exact .top _
   ·rw[a3]at hp;rw[D9]at he';split at he'
    ·rename_i hi;cases he';rw[hi,hsz,E0]at hp;cases hp;exact keptN w' hw _
    ·have hi:=(Array.getElem?_eq_some_iff.1 he').1;rw[E7 (by omega)]at hp;exact kept i p e' hp he' (fun e=>a0 (List.mem_map.2 ⟨p,D7 hp,e⟩)) w' hw _
end Go.Proofs
